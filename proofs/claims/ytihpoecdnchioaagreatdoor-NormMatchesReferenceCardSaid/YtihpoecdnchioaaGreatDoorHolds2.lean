/- The walks of formula.Check and formula.Holds. A bound on the number of nodes. -/
import Derived.Test.YtihpoecdnchioaaGreatDoorHolds
import Derived.Test.YtihpoecdnchioaaGreatDoorPvRow
namespace Go.Proofs.YtihpoecdnchioaaGreatDoor
open Go.RowKit

set_option maxRecDepth 100000 in
set_option maxHeartbeats 1000000 in
theorem checkP_any (f : Fo) (d : List Fa) (ts : List ByteArray) (v u t : Value) (w : World) (B : Nat) (hs : f.size ≤ 1000000) (hB : B ≤ w.heap.size) (hf : f.In w B v) (hd : DomIn w B d u) (ht : StrsIn w B ts t) :
    Calls Tryz.prog 46 #[v, u, t] w fun e w' => e = .returned (.int .i64 (checkF f d (fun s => ts.any fun x => eqB s x))) ∧ Below w.heap.size w w' := by
  obtain ⟨ao, cap, rfl⟩ := hf.shape
  have HD := Lib.hid hd
  obtain ⟨du, rfl, hdu⟩ := hd
  obtain ⟨ad, cd, rfl, d1, d2, _⟩ := SlIn.shape hdu
  have HT := Lib.hid ht
  obtain ⟨at_, ct, rfl, t1, t2, _⟩ := SlIn.shape ht
  have HF := Lib.hid hf
  have hB1 : Below w.heap.size w (((w.alloc (.cells #[.int .i64 f.op, .string f.name, .int .i64 f.cmp, .int .i64 f.n, .slice ao f.kids.length cap] 44)).alloc (.cells #[.slice ad d.length cd] 24)).alloc (.cells #[.slice at_ ts.length ct] 32)) := (((Below.refl _ _).alloc (Nat.le_refl _) _).alloc (by simp) _).alloc (by simp; omega) _
  have hc3 : (((w.alloc (.cells #[.int .i64 f.op, .string f.name, .int .i64 f.cmp, .int .i64 f.n, .slice ao f.kids.length cap] 44)).alloc (.cells #[.slice ad d.length cd] 24)).alloc (.cells #[.slice at_ ts.length ct] 32)).cell? ⟨w.heap.size + 1 + 1, 0, none⟩ = some (.slice at_ ts.length ct) := by
    have h := Blk.cell (Blk.new ((w.alloc (.cells #[.int .i64 f.op, .string f.name, .int .i64 f.cmp, .int .i64 f.n, .slice ao f.kids.length cap] 44)).alloc (.cells #[.slice ad d.length cd] 24)) 32 #[.slice at_ ts.length ct]) 0
    simpa using h
  have hz3 : w.heap.size + 1 + 1 < (((w.alloc (.cells #[.int .i64 f.op, .string f.name, .int .i64 f.cmp, .int .i64 f.n, .slice ao f.kids.length cap] 44)).alloc (.cells #[.slice ad d.length cd] 24)).alloc (.cells #[.slice at_ ts.length ct] 32)).heap.size := by simp
  have hT : Tells 68 #[.pointer (some ⟨w.heap.size + 1 + 1, 0, none⟩)] (fun s => ts.any fun x => eqB s x) (((w.alloc (.cells #[.int .i64 f.op, .string f.name, .int .i64 f.cmp, .int .i64 f.n, .slice ao f.kids.length cap] 44)).alloc (.cells #[.slice ad d.length cd] 24)).alloc (.cells #[.slice at_ ts.length ct] 32)) := by
    intro W s hW hsz
    have h1 := (hW.cell (p := ⟨w.heap.size + 1 + 1, 0, none⟩) hz3).trans hc3
    have HC := Lib.hid (containsStr_any ts s _ W B (HT.out.below ((hB1.trans (hW.mono (by simp; omega))).mono hB)))
    clear hB1 hc3
    show Calls _ _ #[_, _] _ _
    go_enter Tryz.func68, Tryz.ntmps68
    go_wp2_with (go_at_call 39; refine HC.out.mono ?_; rintro e w4 ⟨rfl, rfl⟩)
    go_ret
    exact ⟨rfl, Below.refl _ _⟩
  have HC := Lib.hid (check_any f d 68 #[.pointer (some ⟨w.heap.size + 1 + 1, 0, none⟩)] (fun s => ts.any fun x => eqB s x) _ _ (((w.alloc (.cells #[.int .i64 f.op, .string f.name, .int .i64 f.cmp, .int .i64 f.n, .slice ao f.kids.length cap] 44)).alloc (.cells #[.slice ad d.length cd] 24)).alloc (.cells #[.slice at_ ts.length ct] 32)) B hs (by simp; omega) (Fo.In.below (hB1.mono hB) _ _ HF.out) (HD.out.below (hB1.mono hB)) (enters_of Tryz.func68 (by kernel_rfl) rfl) hT)
  have HB1 := Lib.hid hB1
  generalize checkF f d (fun s => ts.any fun x => eqB s x) = R at *
  clear hT hc3 hB1 hf hdu ht
  go_enter Tryz.func46, Tryz.ntmps46
  go_wp2_with (go_at_call 34; refine HC.out.mono ?_; rintro e w4 ⟨rfl, hb4⟩)
  go_ret
  exact ⟨rfl, HB1.out.trans (hb4.mono (by simp; omega))⟩

theorem DomIn.mono {w : World} {B B' : Nat} (hb : B ≤ B') {d : List Fa} {v : Value} (h : DomIn w B d v) : DomIn w B' d v := by
  obtain ⟨u, rfl, h1⟩ := h
  exact ⟨u, rfl, h1.mono FaR.mono hb⟩

theorem envH {d : List Fa} {c : List Int} {ts : List ByteArray} {w w2 w3 : World} {B : Nat} {ad ac at_ : Option Addr} {cd cc ct : Nat} (hz : w.heap.size + 1 + 1 + 1 + 1 ≤ w2.heap.size) (_h : Below w.heap.size w w3) (hb : Below w2.heap.size w2 w3)
    (r1 : Blk w2 (w.heap.size + 1) 24 #[.slice ad d.length cd]) (r2 : Blk w2 (w.heap.size + 1 + 1) 29 #[.slice ac c.length cc]) (r3 : Blk w2 (w.heap.size + 1 + 1 + 1) 32 #[.slice at_ ts.length ct])
    (hd : DomIn w3 B d (.agg #[.slice ad d.length cd])) (hc : IntsIn w3 B c (.slice ac c.length cc)) (ht : StrsIn w3 B ts (.slice at_ ts.length ct)) (hB : B ≤ w.heap.size) :
    EnvH d c ts (w3.heap.size + 1) (w.heap.size + 1 + 1) (w.heap.size + 1) (w.heap.size + 1 + 1 + 1) w3.heap.size
      (w3.alloc (.cells #[.func (.func 36) #[] #[.pointer (some ⟨w.heap.size + 1 + 1, 0, none⟩), .pointer (some ⟨w.heap.size + 1, 0, none⟩), .pointer (some ⟨w.heap.size + 1 + 1 + 1, 0, none⟩), .pointer (some ⟨w3.heap.size, 0, none⟩)]] 83)) := by
  have hz3 := hb.size
  have hb4 : Below w3.heap.size w3 (w3.alloc (.cells #[.func (.func 36) #[] #[.pointer (some ⟨w.heap.size + 1 + 1, 0, none⟩), .pointer (some ⟨w.heap.size + 1, 0, none⟩), .pointer (some ⟨w.heap.size + 1 + 1 + 1, 0, none⟩), .pointer (some ⟨w3.heap.size, 0, none⟩)]] 83)) := (Below.refl _ _).alloc (Nat.le_refl _) _
  have s1 := Blk.below (Blk.below r1 hb) hb4
  have s2 := Blk.below (Blk.below r2 hb) hb4
  have s3 := Blk.below (Blk.below r3 hb) hb4
  refine ⟨by simp, ⟨by omega, ac, cc, s2.cell 0, SlIn.mono (OneR.mono _) (by omega) (hc.below (hb4.mono (by omega)))⟩, ⟨by omega, ad, cd, s1.cell 0, DomIn.mono (by omega) (hd.below (hb4.mono (by omega)))⟩,
    ⟨by omega, at_, ct, s3.cell 0, SlIn.mono (OneR.mono _) (by omega) (ht.below (hb4.mono (by omega)))⟩, ⟨by omega, Blk.cell (Blk.new w3 83 _) 0⟩⟩

set_option maxHeartbeats 400000 in
theorem tells_all (w : World) : Tells 35 #[] (fun _ => true) w := by
  intro W s _ _
  show Calls _ _ #[_] _ _
  go_enter Tryz.func35, Tryz.ntmps35
  go_wp2
  go_ret
  exact ⟨rfl, Below.refl _ _⟩

section
attribute [local go_sem] run_store_fn
set_option maxRecDepth 100000 in
set_option maxHeartbeats 4000000 in
theorem holdsP_any (f : Fo) (d : List Fa) (c : List Int) (ts : List ByteArray) (v u cv t : Value) (w : World) (B : Nat) (hs : f.size ≤ 1000000) (hB : B ≤ w.heap.size) (hf : f.In w B v) (hd : DomIn w B d u) (hc : IntsIn w B c cv) (ht : StrsIn w B ts t) :
    Calls Tryz.prog 20 #[v, u, cv, t] w fun e w' => e = .returned (.bool (holdsF f d c ts)) ∧ Below w.heap.size w w' := by
  obtain ⟨ao, cap, rfl⟩ := hf.shape
  have HD := Lib.hid hd
  obtain ⟨du, rfl, hdu⟩ := hd
  obtain ⟨ad, cd, rfl, d1, d2, _⟩ := SlIn.shape hdu
  have HT := Lib.hid ht
  obtain ⟨at_, ct, rfl, t1, t2, _⟩ := SlIn.shape ht
  have HCC := Lib.hid hc
  obtain ⟨ac, cc, rfl, c1, c2, _⟩ := SlIn.shape hc
  have HF := Lib.hid hf
  have hB1 : Below w.heap.size w ((((w.alloc (.cells #[.int .i64 f.op, .string f.name, .int .i64 f.cmp, .int .i64 f.n, .slice ao f.kids.length cap] 44)).alloc (.cells #[.slice ad d.length cd] 24)).alloc (.cells #[.slice ac c.length cc] 29)).alloc (.cells #[.slice at_ ts.length ct] 32)) := ((((Below.refl _ _).alloc (Nat.le_refl _) _).alloc (by simp) _).alloc (by simp; omega) _).alloc (by simp; omega) _
  have k0 := Blk.new w 44 #[.int .i64 f.op, .string f.name, .int .i64 f.cmp, .int .i64 f.n, .slice ao f.kids.length cap]
  have k1 := Blk.new (w.alloc (.cells #[.int .i64 f.op, .string f.name, .int .i64 f.cmp, .int .i64 f.n, .slice ao f.kids.length cap] 44)) 24 #[.slice ad d.length cd]
  have k2 := Blk.new ((w.alloc (.cells #[.int .i64 f.op, .string f.name, .int .i64 f.cmp, .int .i64 f.n, .slice ao f.kids.length cap] 44)).alloc (.cells #[.slice ad d.length cd] 24)) 29 #[.slice ac c.length cc]
  have k3 := Blk.new (((w.alloc (.cells #[.int .i64 f.op, .string f.name, .int .i64 f.cmp, .int .i64 f.n, .slice ao f.kids.length cap] 44)).alloc (.cells #[.slice ad d.length cd] 24)).alloc (.cells #[.slice ac c.length cc] 29)) 32 #[.slice at_ ts.length ct]
  simp only [World.size_alloc] at k0 k1 k2 k3
  have K0 : Hid (Blk ((((w.alloc (.cells #[.int .i64 f.op, .string f.name, .int .i64 f.cmp, .int .i64 f.n, .slice ao f.kids.length cap] 44)).alloc (.cells #[.slice ad d.length cd] 24)).alloc (.cells #[.slice ac c.length cc] 29)).alloc (.cells #[.slice at_ ts.length ct] 32)) w.heap.size 44 #[.int .i64 f.op, .string f.name, .int .i64 f.cmp, .int .i64 f.n, .slice ao f.kids.length cap]) := Blk.alloc (Blk.alloc (Blk.alloc k0 _) _) _
  have K1 : Hid (Blk ((((w.alloc (.cells #[.int .i64 f.op, .string f.name, .int .i64 f.cmp, .int .i64 f.n, .slice ao f.kids.length cap] 44)).alloc (.cells #[.slice ad d.length cd] 24)).alloc (.cells #[.slice ac c.length cc] 29)).alloc (.cells #[.slice at_ ts.length ct] 32)) (w.heap.size + 1) 24 #[.slice ad d.length cd]) := Blk.alloc (Blk.alloc k1 _) _
  have K2 : Hid (Blk ((((w.alloc (.cells #[.int .i64 f.op, .string f.name, .int .i64 f.cmp, .int .i64 f.n, .slice ao f.kids.length cap] 44)).alloc (.cells #[.slice ad d.length cd] 24)).alloc (.cells #[.slice ac c.length cc] 29)).alloc (.cells #[.slice at_ ts.length ct] 32)) (w.heap.size + 1 + 1) 29 #[.slice ac c.length cc]) := Blk.alloc k2 _
  have K3 := Lib.hid k3
  have HC := Lib.hid (check_any f d 35 #[] (fun _ => true) _ _ ((((w.alloc (.cells #[.int .i64 f.op, .string f.name, .int .i64 f.cmp, .int .i64 f.n, .slice ao f.kids.length cap] 44)).alloc (.cells #[.slice ad d.length cd] 24)).alloc (.cells #[.slice ac c.length cc] 29)).alloc (.cells #[.slice at_ ts.length ct] 32)) B hs (by simp; omega) (Fo.In.below (hB1.mono hB) _ _ HF.out) (HD.out.below (hB1.mono hB)) (enters_of Tryz.func35 (by kernel_rfl) rfl) (tells_all _))
  have HB1 := Lib.hid hB1
  have HR : Hid (holdsF f d c ts = (decide (checkF f d (fun _ => true) = 0) && fitsD d c && valF d c ts f)) := rfl
  generalize holdsF f d c ts = R at *
  have hgood := good_of_check (d := d) (f := f)
  have HGD := Lib.hid hgood
  generalize checkF f d (fun _ => true) = ck at *
  clear hB1 hf hdu ht hc k0 k1 k2 k3 hgood
  by_cases h1 : ck = 0
  · subst h1
    cases h2 : fitsD d c with
    | false =>
      have HS := Lib.hid (show R = false by rw [HR.out, h2]; simp)
      go_enter Tryz.func20, Tryz.ntmps20
      go_wp2_with (first
        | (go_at_call 34; refine HC.out.mono ?_; rintro e w2 ⟨rfl, hb2⟩; have r1 := Blk.below K1.out hb2; have r2 := Blk.below K2.out hb2; have r0 := Blk.below K0.out hb2; have y1 : w2.cell? ⟨w.heap.size + 1, 0, none⟩ = some (.slice ad d.length cd) := r1.cell 0; have y2 : w2.cell? ⟨w.heap.size + 1 + 1, 0, none⟩ = some (.slice ac c.length cc) := r2.cell 0; have HW2 := Lib.hid (HB1.out.trans (hb2.mono (by simp; omega))); have hz2 := hb2.size; simp only [World.size_alloc] at hz2; have R0 := Lib.hid r0; have R1 := Lib.hid r1; have R2 := Lib.hid r2; have R3 := Lib.hid (Blk.below K3.out hb2); clear r0 r1 r2 hb2)
        | (go_at_call 26; refine (fits_any d c _ _ w2 B (by omega) (HD.out.below (HW2.out.mono hB)) (HCC.out.below (HW2.out.mono hB))).mono ?_; rw [h2]; rintro e w3 ⟨rfl, hb3⟩; have HW3 := Lib.hid (HW2.out.trans (hb3.mono HW2.out.size)); have HB3 := Lib.hid hb3; clear hb3))
      go_ret
      exact ⟨ret_bool HS.out.symm, HW3.out⟩
    | true =>
      have HS := Lib.hid (show R = valF d c ts f by rw [HR.out, h2]; simp)
      have hlen : c.length = d.length := by
        unfold fitsD at h2
        simp only [Bool.and_eq_true, decide_eq_true_iff] at h2
        exact h2.1.2
      have HL := Lib.hid hlen
      clear hlen
      go_enter Tryz.func20, Tryz.ntmps20
      go_wp2_with (first
        | (go_at_call 34; refine HC.out.mono ?_; rintro e w2 ⟨rfl, hb2⟩; have r1 := Blk.below K1.out hb2; have r2 := Blk.below K2.out hb2; have r0 := Blk.below K0.out hb2; have y1 : w2.cell? ⟨w.heap.size + 1, 0, none⟩ = some (.slice ad d.length cd) := r1.cell 0; have y2 : w2.cell? ⟨w.heap.size + 1 + 1, 0, none⟩ = some (.slice ac c.length cc) := r2.cell 0; have HW2 := Lib.hid (HB1.out.trans (hb2.mono (by simp; omega))); have hz2 := hb2.size; simp only [World.size_alloc] at hz2; have R0 := Lib.hid r0; have R1 := Lib.hid r1; have R2 := Lib.hid r2; have R3 := Lib.hid (Blk.below K3.out hb2); clear r0 r1 r2 hb2)
        | (go_at_call 26; refine (fits_any d c _ _ w2 B (by omega) (HD.out.below (HW2.out.mono hB)) (HCC.out.below (HW2.out.mono hB))).mono ?_; rw [h2]; rintro e w3 ⟨rfl, hb3⟩; have x0 : w3.cell? ⟨w.heap.size, 0, none⟩ = some (.int .i64 f.op) := (Blk.below R0.out hb3).cell 0; have x1 : w3.cell? ⟨w.heap.size, 1, none⟩ = some (.string f.name) := (Blk.below R0.out hb3).cell 1; have x2 : w3.cell? ⟨w.heap.size, 2, none⟩ = some (.int .i64 f.cmp) := (Blk.below R0.out hb3).cell 2; have x3 : w3.cell? ⟨w.heap.size, 3, none⟩ = some (.int .i64 f.n) := (Blk.below R0.out hb3).cell 3; have x4 : w3.cell? ⟨w.heap.size, 4, none⟩ = some (.slice ao f.kids.length cap) := (Blk.below R0.out hb3).cell 4; have hz3 := hb3.size; have hlt3 : w.heap.size < w3.heap.size := (by omega); have HW3 := Lib.hid (HW2.out.trans (hb3.mono HW2.out.size)); have HB3 := Lib.hid hb3; clear hb3)
        | (go_at_call 36; refine (holdsC_any d c ts HL.out (w3.heap.size + 1) (w.heap.size + 1 + 1) (w.heap.size + 1) (w.heap.size + 1 + 1 + 1) w3.heap.size f.size f _ _ (Nat.le_refl _) (HGD.out trivial) (envH (by omega) HW3.out HB3.out R1.out R2.out R3.out (HD.out.below (HW3.out.mono hB)) (HCC.out.below (HW3.out.mono hB)) (HT.out.below (HW3.out.mono hB)) hB) (Fo.In.mono (by omega : B ≤ w3.heap.size + 1) _ _ (Fo.In.below ((HW3.out.mono hB).trans ((Below.refl _ _).alloc (by omega) _)) _ _ HF.out))).mono ?_; rintro e w5 ⟨rfl, hb5⟩))
      go_ret
      exact ⟨ret_bool HS.out.symm, (HW3.out.trans ((Below.refl _ _).alloc (by omega) _)).trans (hb5.mono (by simp; omega))⟩
  · have HS := Lib.hid (show R = false by rw [HR.out]; simp [h1])
    have e1 : ((ck : Int) != 0) = true := by simpa using h1
    clear h1
    go_enter Tryz.func20, Tryz.ntmps20
    go_wp2_with (go_at_call 34; refine HC.out.mono ?_; rintro e w2 ⟨rfl, hb2⟩; have r1 := Blk.below K1.out hb2; have r2 := Blk.below K2.out hb2; have r0 := Blk.below K0.out hb2; have y1 : w2.cell? ⟨w.heap.size + 1, 0, none⟩ = some (.slice ad d.length cd) := r1.cell 0; have y2 : w2.cell? ⟨w.heap.size + 1 + 1, 0, none⟩ = some (.slice ac c.length cc) := r2.cell 0; have HW2 := Lib.hid (HB1.out.trans (hb2.mono (by simp; omega))); have hz2 := hb2.size; simp only [World.size_alloc] at hz2; have R0 := Lib.hid r0; have R1 := Lib.hid r1; have R2 := Lib.hid r2; have R3 := Lib.hid (Blk.below K3.out hb2); clear r0 r1 r2 hb2)
    go_ret
    exact ⟨ret_bool HS.out.symm, HW2.out⟩
end

end Go.Proofs.YtihpoecdnchioaaGreatDoor
