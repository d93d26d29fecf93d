/- The diagrams that law11's head writes out, in memory. -/
import Derived.Test.YtejbgoigkefnfaaGreatDoorDgLs
import Derived.Test.YtejbgoigkefnfaaGreatDoorDgRefS
import Derived.Test.YtejbgoigkefnfaaGreatDoorDgPC
namespace Go.Proofs.YtejbgoigkefnfaaGreatDoor
open Go.RowKit

def ageB : ByteArray := ⟨#[97, 103, 101]⟩
def memB : ByteArray := ⟨#[109, 101, 109, 98, 101, 114]⟩
def taxB : ByteArray := ⟨#[116, 97, 120]⟩
/-- the domain of the chapter's example -/
def dH : List Fa := [⟨ageB, 2, 0, 150⟩, ⟨memB, 1, 0, 1⟩]

set_option maxRecDepth 100000 in
set_option maxHeartbeats 4000000 in
theorem test_any (nm : ByteArray) (c n : Int) (w : World) : Calls Tryz.prog 35 #[.string nm, .int .i64 c, .int .i64 n] w fun e w' => e = .returned (.agg #[.int .i64 3, .string nm, .int .i64 c, .int .i64 n, .slice none 0 0]) ∧ Below w.heap.size w w' := by
  go_enter Tryz.func35, Tryz.ntmps35
  go_wp2
  have K := Blk.new w 24 #[.int .i64 3, .string nm, .int .i64 c, .int .i64 n, .slice none 0 0]
  have c0 := K.cell 0
  have c1 := K.cell 1
  have c2 := K.cell 2
  have c3 := K.cell 3
  have c4 := K.cell 4
  simp only [List.getElem?_toArray, List.getElem?_cons_zero, List.getElem?_cons_succ] at c0 c1 c2 c3 c4
  refine bodyPost_ret (by simp [results, Tryz.results35, go_sem, c0, c1, c2, c3, c4]; try rfl) rfl ?_
  exact ⟨rfl, (Below.refl _ _).alloc (Nat.le_refl _) _⟩

theorem dH_ok : ∀ x ∈ dH, x.name.size ≤ maxLen ∧ W64 x.kind ∧ W64 x.lo ∧ W64 x.hi := by
  intro x hx
  simp only [dH, List.mem_cons, List.not_mem_nil, or_false] at hx
  rcases hx with rfl | rfl
  · exact ⟨by decide, ⟨by decide, by decide⟩, ⟨by decide, by decide⟩, ⟨by decide, by decide⟩⟩
  · exact ⟨by decide, ⟨by decide, by decide⟩, ⟨by decide, by decide⟩, ⟨by decide, by decide⟩⟩

set_option maxRecDepth 100000 in
set_option maxHeartbeats 4000000 in
theorem domain_any (w : World) : Calls Tryz.prog 34 #[] w fun e w' => ∃ (b : Nat), e = .returned (.agg #[.slice (some ⟨b, 0, none⟩) 2 2]) ∧ Hid (DomIn w' w'.heap.size dH (.agg #[.slice (some ⟨b, 0, none⟩) 2 2])) ∧ Hid (Below w.heap.size w w') := by
  go_enter Tryz.func34, Tryz.ntmps34
  go_wp2
  have hcs : ((w.alloc (.cells #[.slice (some ⟨w.heap.size + 1, 0, none⟩) 2 2] 27)).alloc (.cells #[.string ageB, .int .i64 2, .int .i64 0, .int .i64 150, .string memB, .int .i64 1, .int .i64 0, .int .i64 1] 83)).cell? ⟨w.heap.size, 0, none⟩ = some (.slice (some ⟨w.heap.size + 1, 0, none⟩) 2 2) :=
    ((Blk.new w 27 #[.slice (some ⟨w.heap.size + 1, 0, none⟩) 2 2]).alloc _).cell 0
  have K : Blk ((w.alloc (.cells #[.slice (some ⟨w.heap.size + 1, 0, none⟩) 2 2] 27)).alloc (.cells #[.string ageB, .int .i64 2, .int .i64 0, .int .i64 150, .string memB, .int .i64 1, .int .i64 0, .int .i64 1] 83)) (w.heap.size + 1) 83 #[.string ageB, .int .i64 2, .int .i64 0, .int .i64 150, .string memB, .int .i64 1, .int .i64 0, .int .i64 1] := by
    have q := Blk.new (w.alloc (.cells #[.slice (some ⟨w.heap.size + 1, 0, none⟩) 2 2] 27)) 83 #[.string ageB, .int .i64 2, .int .i64 0, .int .i64 150, .string memB, .int .i64 1, .int .i64 0, .int .i64 1]
    simpa only [World.size_alloc] using q
  refine bodyPost_ret (by simp [results, Tryz.results34, go_sem]; try rfl) rfl ?_
  refine ⟨_, rfl, ⟨_, rfl, some ⟨w.heap.size + 1, 0, none⟩, 2, rfl, Nat.le_refl _, by decide, fun _ => ⟨w.heap.size + 1, 0, rfl, by simp, fun i hi => ?_⟩⟩, ((Below.refl _ _).alloc (Nat.le_refl _) _).alloc (by simp) _⟩
  have q := dH_ok
  match i, hi with
  | 0, _ => exact ⟨K.cell 0, K.cell 1, K.cell 2, K.cell 3, (q _ (List.getElem_mem _)).1, (q _ (List.getElem_mem _)).2.1, (q _ (List.getElem_mem _)).2.2.1, (q _ (List.getElem_mem _)).2.2.2⟩
  | 1, _ => exact ⟨K.cell 4, K.cell 5, K.cell 6, K.cell 7, (q _ (List.getElem_mem _)).1, (q _ (List.getElem_mem _)).2.1, (q _ (List.getElem_mem _)).2.2.1, (q _ (List.getElem_mem _)).2.2.2⟩

end Go.Proofs.YtejbgoigkefnfaaGreatDoor

namespace Go.Proofs.YtejbgoigkefnfaaGreatDoor

def memF (n : Int) : Fo := .mk 3 memB 1 n []
def ageF (c n : Int) : Fo := .mk 3 ageB c n []
def adultF : Fo := .mk 6 nilB 0 0 [ageF 6 18, memF 1]
def noneF : Fo := .mk 7 nilB 0 0 [memF 1, memF 0]
def wantT : List Dn := [⟨0, [18], [1, 2], false⟩, ⟨0, [], [], false⟩, ⟨1, [1], [1, 3], false⟩, ⟨0, [], [], true⟩]
def yesT : List Dn := [⟨0, [], [], true⟩]
def noT : List Dn := [⟨0, [], [], false⟩]

theorem dH_valid : validD dH = true := by kernel_rfl
theorem want_valid : validG dH wantT = true := by kernel_rfl
theorem yes_valid : validG dH yesT = true := by kernel_rfl
theorem no_valid : validG dH noT = true := by kernel_rfl
theorem want_least : leastG dH wantT = some [18, 1] := by kernel_rfl
theorem want_w1 : walkG wantT [20, 1] 4 0 = true := by kernel_rfl
theorem want_w0 : walkG wantT [20, 0] 4 0 = false := by kernel_rfl
theorem nil_valid : validG dH [] = false := by kernel_rfl
theorem tax_check : checkF (.mk 3 taxB 5 150 []) dH (fun _ => false) ≠ 0 := by
  have e : (checkF (.mk 3 taxB 5 150 []) dH (fun _ => false) == 0) = false := by kernel_rfl
  simpa using e

/-- a small formula is within the cap -/
theorem built_dH {f : Fo} (hc : checkF f dH (fun _ => false) = 0) (hs : f.size ≤ 3) : BuiltB dH f := by
  refine built (dom_ok dH_valid) (wf_check hc) ?_
  have h0 := st_len (d := dH) 0 f
  have h1 := st_len (d := dH) 1 f
  show 1 * (stD dH 0 f).length * (stD dH 1 f).length ≤ 19998
  have : (stD dH 0 f).length * (stD dH 1 f).length ≤ 7 * 7 := Nat.mul_le_mul (by omega) (by omega)
  rw [Nat.one_mul]
  omega

/-- what Build answers at a small formula whose meaning a canonical diagram reads -/
theorem build_dH {f : Fo} {t : List Dn} (hc : checkF f dH (fun _ => false) = 0) (hs : f.size ≤ 3) (hl : (tstF f []).length ≤ 24) (ht : validG dH t = true) (hm : ∀ c : Nat → Int, 0 ≤ c 0 → c 0 ≤ 150 → 0 ≤ c 1 → c 1 ≤ 1 → readG dH t 0 c = valC dH c f) : buildD dH f = (t, 0) := by
  have hb := built_dH hc hs
  unfold buildD
  rw [if_neg (by rw [dH_valid, hc]; simp), if_neg (by omega)]
  congr 1
  refine valid_same (built_valid dH_valid (wf_check hc) hb) (valid_iff.1 ht) fun c fc => ?_
  rw [built_means dH_valid (wf_check hc) hb fc]
  have f0 := fc 0 (by decide)
  have f1 := fc 1 (by decide)
  exact (hm c f0.1 f0.2 f1.1 f1.2).symm

theorem len_dH : dH.length = 2 := rfl
theorem ix_age : idxD dH ageB = 0 := by kernel_rfl
theorem ix_mem : idxD dH memB = 1 := by kernel_rfl

theorem adult_build : buildD dH adultF = (wantT, 0) := by
  refine build_dH (by kernel_rfl) (by decide) (by decide) want_valid fun c h0 h1 h2 h3 => ?_
  by_cases a : c 0 < 18
  · simp [readG, readW, wantT, kidAt, nextI, adultF, ageF, memF, valC, valCL, ix_age, ix_mem, cmpB, List.findIdx, List.findIdx.go, len_dH, a]
    omega
  · by_cases b : c 1 < 1
    · simp [readG, readW, wantT, kidAt, nextI, adultF, ageF, memF, valC, valCL, ix_age, ix_mem, cmpB, List.findIdx, List.findIdx.go, len_dH, a, b]
      omega
    · simp [readG, readW, wantT, kidAt, nextI, adultF, ageF, memF, valC, valCL, ix_age, ix_mem, cmpB, List.findIdx, List.findIdx.go, len_dH, a, b]
      omega
theorem all_build : buildD dH (ageF 6 0) = (yesT, 0) := by
  refine build_dH (by kernel_rfl) (by decide) (by decide) yes_valid fun c h0 h1 h2 h3 => ?_
  simp [readG, readW, yesT, ageF, valC, ix_age, cmpB]; omega
theorem none_build : buildD dH noneF = (yesT, 0) := by
  refine build_dH (by kernel_rfl) (by decide) (by decide) yes_valid fun c h0 h1 h2 h3 => ?_
  simp [readG, readW, yesT, noneF, memF, valC, valCL, ix_mem, cmpB]; omega
theorem old_build : buildD dH (ageF 5 150) = (noT, 0) := by
  refine build_dH (by kernel_rfl) (by decide) (by decide) no_valid fun c h0 h1 h2 h3 => ?_
  simp [readG, readW, noT, ageF, valC, ix_age, cmpB]; omega
theorem tax_build : buildD dH (.mk 3 taxB 5 150 []) = ([], 1) := by
  unfold buildD
  rw [if_pos (Or.inr tax_check)]
end Go.Proofs.YtejbgoigkefnfaaGreatDoor

namespace Go.Proofs.YtejbgoigkefnfaaGreatDoor
open Go.RowKit

theorem ints_lit {w : World} {b B : Nat} (l : List Int) (hb : Blk w b 3 (l.map iW).toArray) (hB : b < B) (hl : l.length ≤ maxLen) : IntsIn w B l (.slice (some ⟨b, 0, none⟩) l.length l.length) :=
  ⟨some ⟨b, 0, none⟩, l.length, rfl, Nat.le_refl _, hl, fun _ => ⟨b, 0, rfl, hB, fun i hi => by
    show w.cell? ⟨b, 0 + i * 1, none⟩ = _
    rw [hb.cell]
    simp [hi, iW]⟩⟩
theorem ints_non (w : World) (B : Nat) : IntsIn w B [] (.slice none 0 0) := ⟨none, 0, rfl, Nat.le_refl _, Nat.zero_le _, fun h => absurd rfl h⟩

theorem leaf_lit {w : World} {b B : Nat} (lf : Bool) (hb : Blk w b 56 #[.int .i64 0, .slice none 0 0, .slice none 0 0, .bool lf]) (hB : b < B) : DgIn w B [⟨0, [], [], lf⟩] (.agg #[.slice (some ⟨b, 0, none⟩) 1 1]) :=
  ⟨_, rfl, some ⟨b, 0, none⟩, 1, rfl, Nat.le_refl _, by decide, fun _ => ⟨b, 0, rfl, hB, fun i hi => by
    obtain rfl : i = 0 := by simp at hi; exact hi
    exact ⟨_, _, hb.cell 0, hb.cell 1, hb.cell 2, hb.cell 3, ints_non w B, ints_non w B⟩⟩⟩

theorem want_lit {w : World} {b B p q r s : Nat} (hb : Blk w b 56 #[.int .i64 0, .slice (some ⟨p, 0, none⟩) 1 1, .slice (some ⟨q, 0, none⟩) 2 2, .bool false, .int .i64 0, .slice none 0 0, .slice none 0 0, .bool false, .int .i64 1, .slice (some ⟨r, 0, none⟩) 1 1, .slice (some ⟨s, 0, none⟩) 2 2, .bool false, .int .i64 0, .slice none 0 0, .slice none 0 0, .bool true]) (hB : b < B)
    (h1 : Blk w p 3 #[.int .i64 18]) (h2 : Blk w q 3 #[.int .i64 1, .int .i64 2]) (h3 : Blk w r 3 #[.int .i64 1]) (h4 : Blk w s 3 #[.int .i64 1, .int .i64 3]) (g1 : p < B) (g2 : q < B) (g3 : r < B) (g4 : s < B) : DgIn w B wantT (.agg #[.slice (some ⟨b, 0, none⟩) 4 4]) :=
  ⟨_, rfl, some ⟨b, 0, none⟩, 4, rfl, Nat.le_refl _, by decide, fun _ => ⟨b, 0, rfl, hB, fun i hi => by
    match i, hi with
    | 0, _ => exact ⟨_, _, hb.cell 0, hb.cell 1, hb.cell 2, hb.cell 3, ints_lit [18] h1 g1 (by decide), ints_lit [1, 2] h2 g2 (by decide)⟩
    | 1, _ => exact ⟨_, _, hb.cell 4, hb.cell 5, hb.cell 6, hb.cell 7, ints_non w B, ints_non w B⟩
    | 2, _ => exact ⟨_, _, hb.cell 8, hb.cell 9, hb.cell 10, hb.cell 11, ints_lit [1] h3 g3 (by decide), ints_lit [1, 3] h4 g4 (by decide)⟩
    | 3, _ => exact ⟨_, _, hb.cell 12, hb.cell 13, hb.cell 14, hb.cell 15, ints_non w B, ints_non w B⟩⟩⟩

theorem lits (W : World) : Below W.heap.size W ((((((((((W.alloc (.cells #[.int .i64 18] 3)).alloc (.cells #[.int .i64 1, .int .i64 2] 3)).alloc (.cells #[.int .i64 1] 3)).alloc (.cells #[.int .i64 1, .int .i64 3] 3)).alloc (.cells #[.int .i64 0, .slice (some ⟨W.heap.size, 0, none⟩) 1 1, .slice (some ⟨W.heap.size + 1, 0, none⟩) 2 2, .bool false, .int .i64 0, .slice none 0 0, .slice none 0 0, .bool false, .int .i64 1, .slice (some ⟨W.heap.size + 1 + 1, 0, none⟩) 1 1, .slice (some ⟨W.heap.size + 1 + 1 + 1, 0, none⟩) 2 2, .bool false, .int .i64 0, .slice none 0 0, .slice none 0 0, .bool true] 56)).alloc (.cells #[.slice (some ⟨W.heap.size + 1 + 1 + 1 + 1, 0, none⟩) 4 4] 34)).alloc (.cells #[.int .i64 0, .slice none 0 0, .slice none 0 0, .bool true] 56)).alloc (.cells #[.slice (some ⟨W.heap.size + 1 + 1 + 1 + 1 + 1 + 1, 0, none⟩) 1 1] 34)).alloc (.cells #[.int .i64 0, .slice none 0 0, .slice none 0 0, .bool false] 56)).alloc (.cells #[.slice (some ⟨W.heap.size + 1 + 1 + 1 + 1 + 1 + 1 + 1 + 1, 0, none⟩) 1 1] 34)) ∧
    Blk ((((((((((W.alloc (.cells #[.int .i64 18] 3)).alloc (.cells #[.int .i64 1, .int .i64 2] 3)).alloc (.cells #[.int .i64 1] 3)).alloc (.cells #[.int .i64 1, .int .i64 3] 3)).alloc (.cells #[.int .i64 0, .slice (some ⟨W.heap.size, 0, none⟩) 1 1, .slice (some ⟨W.heap.size + 1, 0, none⟩) 2 2, .bool false, .int .i64 0, .slice none 0 0, .slice none 0 0, .bool false, .int .i64 1, .slice (some ⟨W.heap.size + 1 + 1, 0, none⟩) 1 1, .slice (some ⟨W.heap.size + 1 + 1 + 1, 0, none⟩) 2 2, .bool false, .int .i64 0, .slice none 0 0, .slice none 0 0, .bool true] 56)).alloc (.cells #[.slice (some ⟨W.heap.size + 1 + 1 + 1 + 1, 0, none⟩) 4 4] 34)).alloc (.cells #[.int .i64 0, .slice none 0 0, .slice none 0 0, .bool true] 56)).alloc (.cells #[.slice (some ⟨W.heap.size + 1 + 1 + 1 + 1 + 1 + 1, 0, none⟩) 1 1] 34)).alloc (.cells #[.int .i64 0, .slice none 0 0, .slice none 0 0, .bool false] 56)).alloc (.cells #[.slice (some ⟨W.heap.size + 1 + 1 + 1 + 1 + 1 + 1 + 1 + 1, 0, none⟩) 1 1] 34)) (W.heap.size + 1 + 1 + 1 + 1 + 1) 34 #[.slice (some ⟨W.heap.size + 1 + 1 + 1 + 1, 0, none⟩) 4 4] ∧ DgIn ((((((((((W.alloc (.cells #[.int .i64 18] 3)).alloc (.cells #[.int .i64 1, .int .i64 2] 3)).alloc (.cells #[.int .i64 1] 3)).alloc (.cells #[.int .i64 1, .int .i64 3] 3)).alloc (.cells #[.int .i64 0, .slice (some ⟨W.heap.size, 0, none⟩) 1 1, .slice (some ⟨W.heap.size + 1, 0, none⟩) 2 2, .bool false, .int .i64 0, .slice none 0 0, .slice none 0 0, .bool false, .int .i64 1, .slice (some ⟨W.heap.size + 1 + 1, 0, none⟩) 1 1, .slice (some ⟨W.heap.size + 1 + 1 + 1, 0, none⟩) 2 2, .bool false, .int .i64 0, .slice none 0 0, .slice none 0 0, .bool true] 56)).alloc (.cells #[.slice (some ⟨W.heap.size + 1 + 1 + 1 + 1, 0, none⟩) 4 4] 34)).alloc (.cells #[.int .i64 0, .slice none 0 0, .slice none 0 0, .bool true] 56)).alloc (.cells #[.slice (some ⟨W.heap.size + 1 + 1 + 1 + 1 + 1 + 1, 0, none⟩) 1 1] 34)).alloc (.cells #[.int .i64 0, .slice none 0 0, .slice none 0 0, .bool false] 56)).alloc (.cells #[.slice (some ⟨W.heap.size + 1 + 1 + 1 + 1 + 1 + 1 + 1 + 1, 0, none⟩) 1 1] 34)) (((((((((((W.alloc (.cells #[.int .i64 18] 3)).alloc (.cells #[.int .i64 1, .int .i64 2] 3)).alloc (.cells #[.int .i64 1] 3)).alloc (.cells #[.int .i64 1, .int .i64 3] 3)).alloc (.cells #[.int .i64 0, .slice (some ⟨W.heap.size, 0, none⟩) 1 1, .slice (some ⟨W.heap.size + 1, 0, none⟩) 2 2, .bool false, .int .i64 0, .slice none 0 0, .slice none 0 0, .bool false, .int .i64 1, .slice (some ⟨W.heap.size + 1 + 1, 0, none⟩) 1 1, .slice (some ⟨W.heap.size + 1 + 1 + 1, 0, none⟩) 2 2, .bool false, .int .i64 0, .slice none 0 0, .slice none 0 0, .bool true] 56)).alloc (.cells #[.slice (some ⟨W.heap.size + 1 + 1 + 1 + 1, 0, none⟩) 4 4] 34)).alloc (.cells #[.int .i64 0, .slice none 0 0, .slice none 0 0, .bool true] 56)).alloc (.cells #[.slice (some ⟨W.heap.size + 1 + 1 + 1 + 1 + 1 + 1, 0, none⟩) 1 1] 34)).alloc (.cells #[.int .i64 0, .slice none 0 0, .slice none 0 0, .bool false] 56)).alloc (.cells #[.slice (some ⟨W.heap.size + 1 + 1 + 1 + 1 + 1 + 1 + 1 + 1, 0, none⟩) 1 1] 34))).heap.size wantT (.agg #[.slice (some ⟨W.heap.size + 1 + 1 + 1 + 1, 0, none⟩) 4 4]) ∧
    Blk ((((((((((W.alloc (.cells #[.int .i64 18] 3)).alloc (.cells #[.int .i64 1, .int .i64 2] 3)).alloc (.cells #[.int .i64 1] 3)).alloc (.cells #[.int .i64 1, .int .i64 3] 3)).alloc (.cells #[.int .i64 0, .slice (some ⟨W.heap.size, 0, none⟩) 1 1, .slice (some ⟨W.heap.size + 1, 0, none⟩) 2 2, .bool false, .int .i64 0, .slice none 0 0, .slice none 0 0, .bool false, .int .i64 1, .slice (some ⟨W.heap.size + 1 + 1, 0, none⟩) 1 1, .slice (some ⟨W.heap.size + 1 + 1 + 1, 0, none⟩) 2 2, .bool false, .int .i64 0, .slice none 0 0, .slice none 0 0, .bool true] 56)).alloc (.cells #[.slice (some ⟨W.heap.size + 1 + 1 + 1 + 1, 0, none⟩) 4 4] 34)).alloc (.cells #[.int .i64 0, .slice none 0 0, .slice none 0 0, .bool true] 56)).alloc (.cells #[.slice (some ⟨W.heap.size + 1 + 1 + 1 + 1 + 1 + 1, 0, none⟩) 1 1] 34)).alloc (.cells #[.int .i64 0, .slice none 0 0, .slice none 0 0, .bool false] 56)).alloc (.cells #[.slice (some ⟨W.heap.size + 1 + 1 + 1 + 1 + 1 + 1 + 1 + 1, 0, none⟩) 1 1] 34)) (W.heap.size + 1 + 1 + 1 + 1 + 1 + 1 + 1) 34 #[.slice (some ⟨W.heap.size + 1 + 1 + 1 + 1 + 1 + 1, 0, none⟩) 1 1] ∧ DgIn ((((((((((W.alloc (.cells #[.int .i64 18] 3)).alloc (.cells #[.int .i64 1, .int .i64 2] 3)).alloc (.cells #[.int .i64 1] 3)).alloc (.cells #[.int .i64 1, .int .i64 3] 3)).alloc (.cells #[.int .i64 0, .slice (some ⟨W.heap.size, 0, none⟩) 1 1, .slice (some ⟨W.heap.size + 1, 0, none⟩) 2 2, .bool false, .int .i64 0, .slice none 0 0, .slice none 0 0, .bool false, .int .i64 1, .slice (some ⟨W.heap.size + 1 + 1, 0, none⟩) 1 1, .slice (some ⟨W.heap.size + 1 + 1 + 1, 0, none⟩) 2 2, .bool false, .int .i64 0, .slice none 0 0, .slice none 0 0, .bool true] 56)).alloc (.cells #[.slice (some ⟨W.heap.size + 1 + 1 + 1 + 1, 0, none⟩) 4 4] 34)).alloc (.cells #[.int .i64 0, .slice none 0 0, .slice none 0 0, .bool true] 56)).alloc (.cells #[.slice (some ⟨W.heap.size + 1 + 1 + 1 + 1 + 1 + 1, 0, none⟩) 1 1] 34)).alloc (.cells #[.int .i64 0, .slice none 0 0, .slice none 0 0, .bool false] 56)).alloc (.cells #[.slice (some ⟨W.heap.size + 1 + 1 + 1 + 1 + 1 + 1 + 1 + 1, 0, none⟩) 1 1] 34)) (((((((((((W.alloc (.cells #[.int .i64 18] 3)).alloc (.cells #[.int .i64 1, .int .i64 2] 3)).alloc (.cells #[.int .i64 1] 3)).alloc (.cells #[.int .i64 1, .int .i64 3] 3)).alloc (.cells #[.int .i64 0, .slice (some ⟨W.heap.size, 0, none⟩) 1 1, .slice (some ⟨W.heap.size + 1, 0, none⟩) 2 2, .bool false, .int .i64 0, .slice none 0 0, .slice none 0 0, .bool false, .int .i64 1, .slice (some ⟨W.heap.size + 1 + 1, 0, none⟩) 1 1, .slice (some ⟨W.heap.size + 1 + 1 + 1, 0, none⟩) 2 2, .bool false, .int .i64 0, .slice none 0 0, .slice none 0 0, .bool true] 56)).alloc (.cells #[.slice (some ⟨W.heap.size + 1 + 1 + 1 + 1, 0, none⟩) 4 4] 34)).alloc (.cells #[.int .i64 0, .slice none 0 0, .slice none 0 0, .bool true] 56)).alloc (.cells #[.slice (some ⟨W.heap.size + 1 + 1 + 1 + 1 + 1 + 1, 0, none⟩) 1 1] 34)).alloc (.cells #[.int .i64 0, .slice none 0 0, .slice none 0 0, .bool false] 56)).alloc (.cells #[.slice (some ⟨W.heap.size + 1 + 1 + 1 + 1 + 1 + 1 + 1 + 1, 0, none⟩) 1 1] 34))).heap.size yesT (.agg #[.slice (some ⟨W.heap.size + 1 + 1 + 1 + 1 + 1 + 1, 0, none⟩) 1 1]) ∧
    Blk ((((((((((W.alloc (.cells #[.int .i64 18] 3)).alloc (.cells #[.int .i64 1, .int .i64 2] 3)).alloc (.cells #[.int .i64 1] 3)).alloc (.cells #[.int .i64 1, .int .i64 3] 3)).alloc (.cells #[.int .i64 0, .slice (some ⟨W.heap.size, 0, none⟩) 1 1, .slice (some ⟨W.heap.size + 1, 0, none⟩) 2 2, .bool false, .int .i64 0, .slice none 0 0, .slice none 0 0, .bool false, .int .i64 1, .slice (some ⟨W.heap.size + 1 + 1, 0, none⟩) 1 1, .slice (some ⟨W.heap.size + 1 + 1 + 1, 0, none⟩) 2 2, .bool false, .int .i64 0, .slice none 0 0, .slice none 0 0, .bool true] 56)).alloc (.cells #[.slice (some ⟨W.heap.size + 1 + 1 + 1 + 1, 0, none⟩) 4 4] 34)).alloc (.cells #[.int .i64 0, .slice none 0 0, .slice none 0 0, .bool true] 56)).alloc (.cells #[.slice (some ⟨W.heap.size + 1 + 1 + 1 + 1 + 1 + 1, 0, none⟩) 1 1] 34)).alloc (.cells #[.int .i64 0, .slice none 0 0, .slice none 0 0, .bool false] 56)).alloc (.cells #[.slice (some ⟨W.heap.size + 1 + 1 + 1 + 1 + 1 + 1 + 1 + 1, 0, none⟩) 1 1] 34)) (W.heap.size + 1 + 1 + 1 + 1 + 1 + 1 + 1 + 1 + 1) 34 #[.slice (some ⟨W.heap.size + 1 + 1 + 1 + 1 + 1 + 1 + 1 + 1, 0, none⟩) 1 1] ∧ DgIn ((((((((((W.alloc (.cells #[.int .i64 18] 3)).alloc (.cells #[.int .i64 1, .int .i64 2] 3)).alloc (.cells #[.int .i64 1] 3)).alloc (.cells #[.int .i64 1, .int .i64 3] 3)).alloc (.cells #[.int .i64 0, .slice (some ⟨W.heap.size, 0, none⟩) 1 1, .slice (some ⟨W.heap.size + 1, 0, none⟩) 2 2, .bool false, .int .i64 0, .slice none 0 0, .slice none 0 0, .bool false, .int .i64 1, .slice (some ⟨W.heap.size + 1 + 1, 0, none⟩) 1 1, .slice (some ⟨W.heap.size + 1 + 1 + 1, 0, none⟩) 2 2, .bool false, .int .i64 0, .slice none 0 0, .slice none 0 0, .bool true] 56)).alloc (.cells #[.slice (some ⟨W.heap.size + 1 + 1 + 1 + 1, 0, none⟩) 4 4] 34)).alloc (.cells #[.int .i64 0, .slice none 0 0, .slice none 0 0, .bool true] 56)).alloc (.cells #[.slice (some ⟨W.heap.size + 1 + 1 + 1 + 1 + 1 + 1, 0, none⟩) 1 1] 34)).alloc (.cells #[.int .i64 0, .slice none 0 0, .slice none 0 0, .bool false] 56)).alloc (.cells #[.slice (some ⟨W.heap.size + 1 + 1 + 1 + 1 + 1 + 1 + 1 + 1, 0, none⟩) 1 1] 34)) (((((((((((W.alloc (.cells #[.int .i64 18] 3)).alloc (.cells #[.int .i64 1, .int .i64 2] 3)).alloc (.cells #[.int .i64 1] 3)).alloc (.cells #[.int .i64 1, .int .i64 3] 3)).alloc (.cells #[.int .i64 0, .slice (some ⟨W.heap.size, 0, none⟩) 1 1, .slice (some ⟨W.heap.size + 1, 0, none⟩) 2 2, .bool false, .int .i64 0, .slice none 0 0, .slice none 0 0, .bool false, .int .i64 1, .slice (some ⟨W.heap.size + 1 + 1, 0, none⟩) 1 1, .slice (some ⟨W.heap.size + 1 + 1 + 1, 0, none⟩) 2 2, .bool false, .int .i64 0, .slice none 0 0, .slice none 0 0, .bool true] 56)).alloc (.cells #[.slice (some ⟨W.heap.size + 1 + 1 + 1 + 1, 0, none⟩) 4 4] 34)).alloc (.cells #[.int .i64 0, .slice none 0 0, .slice none 0 0, .bool true] 56)).alloc (.cells #[.slice (some ⟨W.heap.size + 1 + 1 + 1 + 1 + 1 + 1, 0, none⟩) 1 1] 34)).alloc (.cells #[.int .i64 0, .slice none 0 0, .slice none 0 0, .bool false] 56)).alloc (.cells #[.slice (some ⟨W.heap.size + 1 + 1 + 1 + 1 + 1 + 1 + 1 + 1, 0, none⟩) 1 1] 34))).heap.size noT (.agg #[.slice (some ⟨W.heap.size + 1 + 1 + 1 + 1 + 1 + 1 + 1 + 1, 0, none⟩) 1 1]) := by
  have hn : ∀ (w : World) (n : Nat) (t : TypeId) (cs : Array Value), w.heap.size = n → Blk (w.alloc (.cells cs t)) n t cs := fun w n t cs h => by subst h; exact Blk.new w t cs
  have e1 : ((W.alloc (.cells #[.int .i64 18] 3))).heap.size = W.heap.size + 1 := World.size_alloc _ _
  have e2 : (((W.alloc (.cells #[.int .i64 18] 3)).alloc (.cells #[.int .i64 1, .int .i64 2] 3))).heap.size = W.heap.size + 1 + 1 := by rw [World.size_alloc, e1]
  have e3 : ((((W.alloc (.cells #[.int .i64 18] 3)).alloc (.cells #[.int .i64 1, .int .i64 2] 3)).alloc (.cells #[.int .i64 1] 3))).heap.size = W.heap.size + 1 + 1 + 1 := by rw [World.size_alloc, e2]
  have e4 : (((((W.alloc (.cells #[.int .i64 18] 3)).alloc (.cells #[.int .i64 1, .int .i64 2] 3)).alloc (.cells #[.int .i64 1] 3)).alloc (.cells #[.int .i64 1, .int .i64 3] 3))).heap.size = W.heap.size + 1 + 1 + 1 + 1 := by rw [World.size_alloc, e3]
  have k0 := (((Blk.new W 3 #[.int .i64 18]).alloc (.cells #[.int .i64 1, .int .i64 2] 3)).alloc (.cells #[.int .i64 1] 3)).alloc (.cells #[.int .i64 1, .int .i64 3] 3)
  have k1 := ((hn (W.alloc (.cells #[.int .i64 18] 3)) _ 3 #[.int .i64 1, .int .i64 2] e1).alloc (.cells #[.int .i64 1] 3)).alloc (.cells #[.int .i64 1, .int .i64 3] 3)
  have k2 := (hn ((W.alloc (.cells #[.int .i64 18] 3)).alloc (.cells #[.int .i64 1, .int .i64 2] 3)) _ 3 #[.int .i64 1] e2).alloc (.cells #[.int .i64 1, .int .i64 3] 3)
  have k3 := hn (((W.alloc (.cells #[.int .i64 18] 3)).alloc (.cells #[.int .i64 1, .int .i64 2] 3)).alloc (.cells #[.int .i64 1] 3)) _ 3 #[.int .i64 1, .int .i64 3] e3
  have b4 : Below W.heap.size W ((((W.alloc (.cells #[.int .i64 18] 3)).alloc (.cells #[.int .i64 1, .int .i64 2] 3)).alloc (.cells #[.int .i64 1] 3)).alloc (.cells #[.int .i64 1, .int .i64 3] 3)) := ((((Below.refl _ _).alloc (Nat.le_refl _) _).alloc (by rw [e1]; omega) _).alloc (by rw [e2]; omega) _).alloc (by rw [e3]; omega) _
  generalize ((((W.alloc (.cells #[.int .i64 18] 3)).alloc (.cells #[.int .i64 1, .int .i64 2] 3)).alloc (.cells #[.int .i64 1] 3)).alloc (.cells #[.int .i64 1, .int .i64 3] 3)) = W4 at *
  clear e1 e2 e3
  have k4 := hn W4 _ 56 #[.int .i64 0, .slice (some ⟨W.heap.size, 0, none⟩) 1 1, .slice (some ⟨W.heap.size + 1, 0, none⟩) 2 2, .bool false, .int .i64 0, .slice none 0 0, .slice none 0 0, .bool false, .int .i64 1, .slice (some ⟨W.heap.size + 1 + 1, 0, none⟩) 1 1, .slice (some ⟨W.heap.size + 1 + 1 + 1, 0, none⟩) 2 2, .bool false, .int .i64 0, .slice none 0 0, .slice none 0 0, .bool true] e4
  have k5 := hn _ (W.heap.size + 1 + 1 + 1 + 1 + 1) 34 #[.slice (some ⟨W.heap.size + 1 + 1 + 1 + 1, 0, none⟩) 4 4] (show (W4.alloc (.cells #[.int .i64 0, .slice (some ⟨W.heap.size, 0, none⟩) 1 1, .slice (some ⟨W.heap.size + 1, 0, none⟩) 2 2, .bool false, .int .i64 0, .slice none 0 0, .slice none 0 0, .bool false, .int .i64 1, .slice (some ⟨W.heap.size + 1 + 1, 0, none⟩) 1 1, .slice (some ⟨W.heap.size + 1 + 1 + 1, 0, none⟩) 2 2, .bool false, .int .i64 0, .slice none 0 0, .slice none 0 0, .bool true] 56)).heap.size = _ by rw [World.size_alloc, e4])
  have k0' := (k0.alloc (.cells #[.int .i64 0, .slice (some ⟨W.heap.size, 0, none⟩) 1 1, .slice (some ⟨W.heap.size + 1, 0, none⟩) 2 2, .bool false, .int .i64 0, .slice none 0 0, .slice none 0 0, .bool false, .int .i64 1, .slice (some ⟨W.heap.size + 1 + 1, 0, none⟩) 1 1, .slice (some ⟨W.heap.size + 1 + 1 + 1, 0, none⟩) 2 2, .bool false, .int .i64 0, .slice none 0 0, .slice none 0 0, .bool true] 56)).alloc (.cells #[.slice (some ⟨W.heap.size + 1 + 1 + 1 + 1, 0, none⟩) 4 4] 34)
  have k1' := (k1.alloc (.cells #[.int .i64 0, .slice (some ⟨W.heap.size, 0, none⟩) 1 1, .slice (some ⟨W.heap.size + 1, 0, none⟩) 2 2, .bool false, .int .i64 0, .slice none 0 0, .slice none 0 0, .bool false, .int .i64 1, .slice (some ⟨W.heap.size + 1 + 1, 0, none⟩) 1 1, .slice (some ⟨W.heap.size + 1 + 1 + 1, 0, none⟩) 2 2, .bool false, .int .i64 0, .slice none 0 0, .slice none 0 0, .bool true] 56)).alloc (.cells #[.slice (some ⟨W.heap.size + 1 + 1 + 1 + 1, 0, none⟩) 4 4] 34)
  have k2' := (k2.alloc (.cells #[.int .i64 0, .slice (some ⟨W.heap.size, 0, none⟩) 1 1, .slice (some ⟨W.heap.size + 1, 0, none⟩) 2 2, .bool false, .int .i64 0, .slice none 0 0, .slice none 0 0, .bool false, .int .i64 1, .slice (some ⟨W.heap.size + 1 + 1, 0, none⟩) 1 1, .slice (some ⟨W.heap.size + 1 + 1 + 1, 0, none⟩) 2 2, .bool false, .int .i64 0, .slice none 0 0, .slice none 0 0, .bool true] 56)).alloc (.cells #[.slice (some ⟨W.heap.size + 1 + 1 + 1 + 1, 0, none⟩) 4 4] 34)
  have k3' := (k3.alloc (.cells #[.int .i64 0, .slice (some ⟨W.heap.size, 0, none⟩) 1 1, .slice (some ⟨W.heap.size + 1, 0, none⟩) 2 2, .bool false, .int .i64 0, .slice none 0 0, .slice none 0 0, .bool false, .int .i64 1, .slice (some ⟨W.heap.size + 1 + 1, 0, none⟩) 1 1, .slice (some ⟨W.heap.size + 1 + 1 + 1, 0, none⟩) 2 2, .bool false, .int .i64 0, .slice none 0 0, .slice none 0 0, .bool true] 56)).alloc (.cells #[.slice (some ⟨W.heap.size + 1 + 1 + 1 + 1, 0, none⟩) 4 4] 34)
  have k4' := k4.alloc (.cells #[.slice (some ⟨W.heap.size + 1 + 1 + 1 + 1, 0, none⟩) 4 4] 34)
  have b6 : Below W.heap.size W ((W4.alloc (.cells #[.int .i64 0, .slice (some ⟨W.heap.size, 0, none⟩) 1 1, .slice (some ⟨W.heap.size + 1, 0, none⟩) 2 2, .bool false, .int .i64 0, .slice none 0 0, .slice none 0 0, .bool false, .int .i64 1, .slice (some ⟨W.heap.size + 1 + 1, 0, none⟩) 1 1, .slice (some ⟨W.heap.size + 1 + 1 + 1, 0, none⟩) 2 2, .bool false, .int .i64 0, .slice none 0 0, .slice none 0 0, .bool true] 56)).alloc (.cells #[.slice (some ⟨W.heap.size + 1 + 1 + 1 + 1, 0, none⟩) 4 4] 34)) := (b4.alloc (by omega) _).alloc (by rw [World.size_alloc]; omega) _
  have e6 : ((W4.alloc (.cells #[.int .i64 0, .slice (some ⟨W.heap.size, 0, none⟩) 1 1, .slice (some ⟨W.heap.size + 1, 0, none⟩) 2 2, .bool false, .int .i64 0, .slice none 0 0, .slice none 0 0, .bool false, .int .i64 1, .slice (some ⟨W.heap.size + 1 + 1, 0, none⟩) 1 1, .slice (some ⟨W.heap.size + 1 + 1 + 1, 0, none⟩) 2 2, .bool false, .int .i64 0, .slice none 0 0, .slice none 0 0, .bool true] 56)).alloc (.cells #[.slice (some ⟨W.heap.size + 1 + 1 + 1 + 1, 0, none⟩) 4 4] 34)).heap.size = W.heap.size + 1 + 1 + 1 + 1 + 1 + 1 := by rw [World.size_alloc, World.size_alloc, e4]
  have hw := want_lit (B := W.heap.size + 1 + 1 + 1 + 1 + 1 + 1) k4' (by omega) k0' k1' k2' k3' (by omega) (by omega) (by omega) (by omega)
  clear k0 k1 k2 k3 k0' k1' k2' k3' k4' k4 b4
  generalize (W4.alloc (.cells #[.int .i64 0, .slice (some ⟨W.heap.size, 0, none⟩) 1 1, .slice (some ⟨W.heap.size + 1, 0, none⟩) 2 2, .bool false, .int .i64 0, .slice none 0 0, .slice none 0 0, .bool false, .int .i64 1, .slice (some ⟨W.heap.size + 1 + 1, 0, none⟩) 1 1, .slice (some ⟨W.heap.size + 1 + 1 + 1, 0, none⟩) 2 2, .bool false, .int .i64 0, .slice none 0 0, .slice none 0 0, .bool true] 56)).alloc (.cells #[.slice (some ⟨W.heap.size + 1 + 1 + 1 + 1, 0, none⟩) 4 4] 34) = W6 at *
  clear e4
  have e7 := (World.size_alloc W6 (.cells #[.int .i64 0, .slice none 0 0, .slice none 0 0, .bool true] 56)).trans (congrArg (· + 1) e6)
  have k6 := hn W6 _ 56 #[.int .i64 0, .slice none 0 0, .slice none 0 0, .bool true] e6
  have b7 := b6.alloc (by omega) (.cells #[.int .i64 0, .slice none 0 0, .slice none 0 0, .bool true] 56)
  have hw7 := hw.below ((Below.refl W6.heap.size W6).alloc (Nat.le_refl _) (.cells #[.int .i64 0, .slice none 0 0, .slice none 0 0, .bool true] 56) |>.mono (by omega))
  have k57 := k5.alloc (.cells #[.int .i64 0, .slice none 0 0, .slice none 0 0, .bool true] 56)
  generalize W6.alloc (.cells #[.int .i64 0, .slice none 0 0, .slice none 0 0, .bool true] 56) = W7 at *
  clear hw k5 b6 e6
  have e8 := (World.size_alloc W7 (.cells #[.slice (some ⟨W.heap.size + 1 + 1 + 1 + 1 + 1 + 1, 0, none⟩) 1 1] 34)).trans (congrArg (· + 1) e7)
  have k7 := hn W7 _ 34 #[.slice (some ⟨W.heap.size + 1 + 1 + 1 + 1 + 1 + 1, 0, none⟩) 1 1] e7
  have k68 := k6.alloc (.cells #[.slice (some ⟨W.heap.size + 1 + 1 + 1 + 1 + 1 + 1, 0, none⟩) 1 1] 34)
  have k58 := k57.alloc (.cells #[.slice (some ⟨W.heap.size + 1 + 1 + 1 + 1 + 1 + 1, 0, none⟩) 1 1] 34)
  have b8 := b7.alloc (by rw [e7]; omega) (.cells #[.slice (some ⟨W.heap.size + 1 + 1 + 1 + 1 + 1 + 1, 0, none⟩) 1 1] 34)
  have hw8 := hw7.below ((Below.refl W7.heap.size W7).alloc (Nat.le_refl _) (.cells #[.slice (some ⟨W.heap.size + 1 + 1 + 1 + 1 + 1 + 1, 0, none⟩) 1 1] 34) |>.mono (by rw [e7]; omega))
  generalize W7.alloc (.cells #[.slice (some ⟨W.heap.size + 1 + 1 + 1 + 1 + 1 + 1, 0, none⟩) 1 1] 34) = W8 at *
  clear hw7 k57 b7 k6 e7
  have e9 := (World.size_alloc W8 (.cells #[.int .i64 0, .slice none 0 0, .slice none 0 0, .bool false] 56)).trans (congrArg (· + 1) e8)
  have k8 := hn W8 _ 56 #[.int .i64 0, .slice none 0 0, .slice none 0 0, .bool false] e8
  have k79 := k7.alloc (.cells #[.int .i64 0, .slice none 0 0, .slice none 0 0, .bool false] 56)
  have k69 := k68.alloc (.cells #[.int .i64 0, .slice none 0 0, .slice none 0 0, .bool false] 56)
  have k59 := k58.alloc (.cells #[.int .i64 0, .slice none 0 0, .slice none 0 0, .bool false] 56)
  have b9 := b8.alloc (by rw [e8]; omega) (.cells #[.int .i64 0, .slice none 0 0, .slice none 0 0, .bool false] 56)
  have hw9 := hw8.below ((Below.refl W8.heap.size W8).alloc (Nat.le_refl _) (.cells #[.int .i64 0, .slice none 0 0, .slice none 0 0, .bool false] 56) |>.mono (by rw [e8]; omega))
  generalize W8.alloc (.cells #[.int .i64 0, .slice none 0 0, .slice none 0 0, .bool false] 56) = W9 at *
  clear hw8 k58 b8 k68 k7 e8
  have e10 := (World.size_alloc W9 (.cells #[.slice (some ⟨W.heap.size + 1 + 1 + 1 + 1 + 1 + 1 + 1 + 1, 0, none⟩) 1 1] 34)).trans (congrArg (· + 1) e9)
  have k9 := hn W9 _ 34 #[.slice (some ⟨W.heap.size + 1 + 1 + 1 + 1 + 1 + 1 + 1 + 1, 0, none⟩) 1 1] e9
  have hw10 := hw9.below ((Below.refl W9.heap.size W9).alloc (Nat.le_refl _) (.cells #[.slice (some ⟨W.heap.size + 1 + 1 + 1 + 1 + 1 + 1 + 1 + 1, 0, none⟩) 1 1] 34) |>.mono (by rw [e9]; omega))
  refine ⟨b9.alloc (by rw [e9]; omega) _, k59.alloc _, ?_, k79.alloc _, ?_, k9, ?_⟩
  · exact hw10.mono (by rw [e10]; omega)
  · exact leaf_lit true (k69.alloc _) (by rw [e10]; omega)
  · exact leaf_lit false (k8.alloc _) (by rw [e10]; omega)
end Go.Proofs.YtejbgoigkefnfaaGreatDoor
