/- The walk of And where one of the diagrams is not canonical. No conditions. -/
import Derived.Test.YtejbgoigkefnfaaGreatDoorDgLawP
namespace Go.Proofs.YtejbgoigkefnfaaGreatDoor
open Go.RowKit

/-- a node of few kids and cuts -/
def fewN (n : Int) (x : Dn) : Bool := decide ((x.kids.length : Int) ≤ n) && decide ((x.cuts.length : Int) ≤ n)
/-- a diagram of few nodes -/
def fewG (t : List Dn) (n : Int) : Bool := decide ((t.length : Int) ≤ n) && t.all (fewN n)

theorem all_drop {α : Type} (p : α → Bool) (l : List α) (k : Nat) (h : k < l.length) : (l.drop k).all p = (p l[k] && (l.drop (k + 1)).all p) := by
  rw [List.drop_eq_getElem_cons h, List.all_cons]

set_option maxRecDepth 100000 in
set_option maxHeartbeats 4000000 in
theorem few_any (t : List Dn) (n : Int) (vg : Value) (w : World) (hg : DgIn w w.heap.size t vg) :
    Calls Tryz.prog 22 #[vg, .int .i64 n] w fun e w' => e = .returned (.bool (fewG t n)) ∧ Below w.heap.size w w' := by
  obtain ⟨u, rfl, hg2⟩ := hg
  have HG := Lib.hid hg2
  obtain ⟨a, c, rfl, l1, l2, _⟩ := SlIn.shape hg2
  unfold maxLen at l2
  have HB1 : Hid (Below w.heap.size w (w.alloc (.cells #[.slice a t.length c] 34))) := (Below.refl _ _).alloc (Nat.le_refl _) _
  have HK : Hid (Blk (w.alloc (.cells #[.slice a t.length c] 34)) w.heap.size 34 #[.slice a t.length c]) := Blk.new _ _ _
  have hs1 : ((w.alloc (.cells #[.slice a t.length c] 34))).heap.size = w.heap.size + 1 := by simp
  obtain ⟨W, hW⟩ : ∃ W, (w.alloc (.cells #[.slice a t.length c] 34)) = W := ⟨_, rfl⟩
  rw [hW] at HB1 HK hs1
  have HW := Lib.hid hW
  clear hg2 hW
  have x0 := HK.out.cell 0
  obtain ⟨R, hR⟩ : ∃ R, fewG t n = R := ⟨_, rfl⟩
  rw [hR]
  have HR := Lib.hid hR
  clear hR
  by_cases hl : (t.length : Int) ≤ n
  · have HS : Hid (R = (t.drop 0).all (fewN n)) := by
      show _ = _
      rw [← HR.out]; unfold fewG; rw [decide_eq_true hl, List.drop_zero, Bool.true_and]
    clear HR
    go_enter Tryz.func22, Tryz.ntmps22
    go_upto_region 1 with (fail)
    rw [HW.out]
    go_wp2
    go_loopw [5] (fun iv wr => ∃ k : Nat, k ≤ t.length ∧ iv = .int .i64 k ∧ Hid (R = (t.drop k).all (fewN n)) ∧ Hid (Below W.heap.size W wr)) (fun iv _ => t.length - (intOf iv).toNat)
    case atStart => exact ⟨0, by omega, rfl, HS, Below.refl _ _⟩
    case round =>
      obtain ⟨k, hk, rfl, hRk, hb⟩ := hrel
      clear HS x0
      have x0 := (HK.out.below hb.out).cell 0
      by_cases hlt : k < t.length
      · obtain ⟨b, o, rfl, hbB, vc, vk, n0, n1, n2, n3, hcu, hki⟩ := HG.out.at k hlt
        have hRR := hRk.out
        rw [all_drop _ _ _ hlt] at hRR
        have hbw := HB1.out.trans (hb.out.mono (by omega))
        have q1 := (hbw.cell (p := ⟨b, o + k * 4 + 1, none⟩) (by show b < w.heap.size; omega)).trans n1
        have q2 := (hbw.cell (p := ⟨b, o + k * 4 + 2, none⟩) (by show b < w.heap.size; omega)).trans n2
        obtain ⟨ac, cc, rfl, _⟩ := SlIn.shape hcu
        obtain ⟨ak, ck, rfl, _⟩ := SlIn.shape hki
        have HRR : Hid (R = (fewN n t[k] && (t.drop (k + 1)).all (fewN n))) := hRR
        clear hcu hki n0 n1 n2 n3 hRk hRR hbw
        generalize t[k] = x at *
        by_cases h1 : (x.kids.length : Int) ≤ n
        · by_cases h2 : (x.cuts.length : Int) ≤ n
          · have HS : Hid (R = (t.drop (k + 1)).all (fewN n)) := by
              show _ = _
              rw [HRR.out]; unfold fewN; rw [decide_eq_true h1, decide_eq_true h2]; rfl
            clear HRR
            go_wp2
            go_roundw
            case rel => exact ⟨k + 1, by omega, by go_num, HS, hb⟩
            case measure => simp [intOf]; omega
          · have HS : Hid (R = false) := by
              show _ = _
              rw [HRR.out]; unfold fewN; rw [decide_eq_false h2, Bool.and_false]; rfl
            clear HRR
            go_wp2
            go_ret
            exact ⟨ret_bool HS.out.symm, HB1.out.trans (hb.out.mono (by omega))⟩
        · have HS : Hid (R = false) := by
            show _ = _
            rw [HRR.out]; unfold fewN; rw [decide_eq_false h1]; rfl
          clear HRR
          go_wp2
          go_ret
          exact ⟨ret_bool HS.out.symm, HB1.out.trans (hb.out.mono (by omega))⟩
      · have HS : Hid (R = true) := by
          show _ = _
          rw [hRk.out, List.drop_of_length_le (by omega)]; rfl
        clear hRk
        go_wp2
        go_ret
        exact ⟨ret_bool HS.out.symm, HB1.out.trans (hb.out.mono (by omega))⟩
  · have HS : Hid (R = false) := by
      show _ = _
      rw [← HR.out]; unfold fewG; rw [decide_eq_false hl]; rfl
    clear HR
    go_enter Tryz.func22, Tryz.ntmps22
    go_upto_region 1 with (fail)
    rw [HW.out]
    go_wp2
    go_loopw [5] (fun iv wr => iv = .int .i64 0 ∧ Hid (Below W.heap.size W wr)) (fun iv _ => 0)
    case atStart => exact ⟨rfl, Below.refl _ _⟩
    case round =>
      obtain ⟨rfl, hb⟩ := hrel
      clear x0
      have x0 := (HK.out.below hb.out).cell 0
      have hlf : decide ((t.length : Int) ≤ n) = false := decide_eq_false (by omega)
      by_cases hz : 0 < t.length
      · go_wp2
        refine bodyPost_ret (by simp [results, Tryz.results22, go_sem]; try rfl) rfl ?_
        exact ⟨ret_bool HS.out.symm, HB1.out.trans (hb.out.mono (by omega))⟩
      · go_wp2
        refine bodyPost_ret (by simp [results, Tryz.results22, go_sem]; try rfl) rfl ?_
        exact ⟨ret_bool HS.out.symm, HB1.out.trans (hb.out.mono (by omega))⟩

end Go.Proofs.YtejbgoigkefnfaaGreatDoor

namespace Go.Proofs.YtejbgoigkefnfaaGreatDoor
open Go.RowKit

/-- two diagrams and a domain, boxed -/
theorem three_start {ta tb : List Dn} {d : List Fa} {w : World} {aa ab ad : Option Addr} {ca cb cd : Nat} (ha : DgIn w w.heap.size ta (.agg #[.slice aa ta.length ca])) (hb : DgIn w w.heap.size tb (.agg #[.slice ab tb.length cb])) (hd : DomIn w w.heap.size d (.agg #[.slice ad d.length cd])) (hT : TabH w.heap.size w) :
    Hid (LwS w (((w.alloc (.cells #[.slice aa ta.length ca] 34)).alloc (.cells #[.slice ab tb.length cb] 34)).alloc (.cells #[.slice ad d.length cd] 27))) ∧ Hid (DgV (((w.alloc (.cells #[.slice aa ta.length ca] 34)).alloc (.cells #[.slice ab tb.length cb] 34)).alloc (.cells #[.slice ad d.length cd] 27)) w.heap.size ta aa ca) ∧ Hid (DgV (((w.alloc (.cells #[.slice aa ta.length ca] 34)).alloc (.cells #[.slice ab tb.length cb] 34)).alloc (.cells #[.slice ad d.length cd] 27)) (w.heap.size + 1) tb ab cb) ∧ Hid (LwD (((w.alloc (.cells #[.slice aa ta.length ca] 34)).alloc (.cells #[.slice ab tb.length cb] 34)).alloc (.cells #[.slice ad d.length cd] 27)) (w.heap.size + 1 + 1) d ad cd) := by
  have h3 : Below w.heap.size w (((w.alloc (.cells #[.slice aa ta.length ca] 34)).alloc (.cells #[.slice ab tb.length cb] 34)).alloc (.cells #[.slice ad d.length cd] 27)) := (((Below.refl _ _).alloc (Nat.le_refl _) _).alloc (by simp) _).alloc (by simp; omega) _
  have k0 : Blk (((w.alloc (.cells #[.slice aa ta.length ca] 34)).alloc (.cells #[.slice ab tb.length cb] 34)).alloc (.cells #[.slice ad d.length cd] 27)) w.heap.size 34 #[.slice aa ta.length ca] := ((Blk.new w 34 #[.slice aa ta.length ca]).alloc _).alloc _
  have k1 : Blk (((w.alloc (.cells #[.slice aa ta.length ca] 34)).alloc (.cells #[.slice ab tb.length cb] 34)).alloc (.cells #[.slice ad d.length cd] 27)) (w.heap.size + 1) 34 #[.slice ab tb.length cb] := by
    have q := (Blk.new (w.alloc (.cells #[.slice aa ta.length ca] 34)) 34 #[.slice ab tb.length cb]).alloc (.cells #[.slice ad d.length cd] 27)
    rw [World.size_alloc] at q
    exact q
  have k2 : Blk (((w.alloc (.cells #[.slice aa ta.length ca] 34)).alloc (.cells #[.slice ab tb.length cb] 34)).alloc (.cells #[.slice ad d.length cd] 27)) (w.heap.size + 1 + 1) 27 #[.slice ad d.length cd] := by
    have q := Blk.new ((w.alloc (.cells #[.slice aa ta.length ca] 34)).alloc (.cells #[.slice ab tb.length cb] 34)) 27 #[.slice ad d.length cd]
    rw [World.size_alloc, World.size_alloc] at q
    exact q
  exact ⟨(lws_new hT).step h3, ⟨k0, (ha.below h3).mono h3.size⟩, ⟨k1, (hb.below h3).mono h3.size⟩, ⟨k2, (hd.below h3).mono h3.size⟩⟩

theorem and_start {ta tb : List Dn} {d : List Fa} {w : World} {aa ab ad : Option Addr} {ca cb cd : Nat} (ha : DgIn w w.heap.size ta (.agg #[.slice aa ta.length ca])) (hb : DgIn w w.heap.size tb (.agg #[.slice ab tb.length cb])) (hd : DomIn w w.heap.size d (.agg #[.slice ad d.length cd])) (hT : TabH w.heap.size w) :
    Hid (LwS w ((((w.alloc (.cells #[.slice aa ta.length ca] 34)).alloc (.cells #[.slice ab tb.length cb] 34)).alloc (.cells #[.slice ad d.length cd] 27)).alloc (.cells #[.slice none 0 0] 34))) ∧ Hid (DgV ((((w.alloc (.cells #[.slice aa ta.length ca] 34)).alloc (.cells #[.slice ab tb.length cb] 34)).alloc (.cells #[.slice ad d.length cd] 27)).alloc (.cells #[.slice none 0 0] 34)) w.heap.size ta aa ca) ∧ Hid (DgV ((((w.alloc (.cells #[.slice aa ta.length ca] 34)).alloc (.cells #[.slice ab tb.length cb] 34)).alloc (.cells #[.slice ad d.length cd] 27)).alloc (.cells #[.slice none 0 0] 34)) (w.heap.size + 1) tb ab cb) ∧ Hid (LwD ((((w.alloc (.cells #[.slice aa ta.length ca] 34)).alloc (.cells #[.slice ab tb.length cb] 34)).alloc (.cells #[.slice ad d.length cd] 27)).alloc (.cells #[.slice none 0 0] 34)) (w.heap.size + 1 + 1) d ad cd) ∧ Hid (Blk ((((w.alloc (.cells #[.slice aa ta.length ca] 34)).alloc (.cells #[.slice ab tb.length cb] 34)).alloc (.cells #[.slice ad d.length cd] 27)).alloc (.cells #[.slice none 0 0] 34)) (w.heap.size + 1 + 1 + 1) 34 #[.slice none 0 0]) := by
  obtain ⟨h1, h2, h3, h4⟩ := three_start ha hb hd hT
  have hs : Below ((((w.alloc (.cells #[.slice aa ta.length ca] 34)).alloc (.cells #[.slice ab tb.length cb] 34)).alloc (.cells #[.slice ad d.length cd] 27))).heap.size (((w.alloc (.cells #[.slice aa ta.length ca] 34)).alloc (.cells #[.slice ab tb.length cb] 34)).alloc (.cells #[.slice ad d.length cd] 27)) ((((w.alloc (.cells #[.slice aa ta.length ca] 34)).alloc (.cells #[.slice ab tb.length cb] 34)).alloc (.cells #[.slice ad d.length cd] 27)).alloc (.cells #[.slice none 0 0] 34)) := (Below.refl _ _).alloc (Nat.le_refl _) _
  have k3 : Blk ((((w.alloc (.cells #[.slice aa ta.length ca] 34)).alloc (.cells #[.slice ab tb.length cb] 34)).alloc (.cells #[.slice ad d.length cd] 27)).alloc (.cells #[.slice none 0 0] 34)) (w.heap.size + 1 + 1 + 1) 34 #[.slice none 0 0] := by
    have q := Blk.new (((w.alloc (.cells #[.slice aa ta.length ca] 34)).alloc (.cells #[.slice ab tb.length cb] 34)).alloc (.cells #[.slice ad d.length cd] 27)) 34 #[.slice none 0 0]
    rw [World.size_alloc, World.size_alloc, World.size_alloc] at q
    exact q
  exact ⟨h1.out.step hs, h2.out.step hs, h3.out.step hs, h4.out.step hs, k3⟩

set_option maxRecDepth 100000 in
set_option maxHeartbeats 4000000 in
theorem andR_any {ta tb : List Dn} {d : List Fa} {w : World} {va vb u : Value} (ha : DgIn w w.heap.size ta va) (hb : DgIn w w.heap.size tb vb) (hd : DomIn w w.heap.size d u) (hT : TabH w.heap.size w) (h64 : ∀ n ∈ ta, Dn64 n) (h64' : ∀ n ∈ tb, Dn64 n) (hno : (validG d ta && validG d tb) = false) :
    Calls Tryz.prog 24 #[va, vb, u] w fun e w' => e = .returned (.tuple #[.agg #[.slice none 0 0], .int .i64 1]) ∧ Below w.heap.size w w' := by
  have ha1 := ha
  have hb1 := hb
  have hd1 := hd
  obtain ⟨_, rfl, h1⟩ := ha
  obtain ⟨_, rfl, h2⟩ := hb
  obtain ⟨_, rfl, h3⟩ := hd
  obtain ⟨aa, ca, rfl, _⟩ := SlIn.shape h1
  obtain ⟨ab, cb, rfl, _⟩ := SlIn.shape h2
  obtain ⟨ad, cd, rfl, _⟩ := SlIn.shape h3
  obtain ⟨HE, HA, HB, HD, HK⟩ := and_start ha1 hb1 hd1 hT
  clear ha1 hb1 hd1 h1 h2 h3 hT
  obtain ⟨W, hW⟩ : ∃ W, ((((w.alloc (.cells #[.slice aa ta.length ca] 34)).alloc (.cells #[.slice ab tb.length cb] 34)).alloc (.cells #[.slice ad d.length cd] 27)).alloc (.cells #[.slice none 0 0] 34)) = W := ⟨_, rfl⟩
  rw [hW] at HE HA HB HD HK
  have HW := Lib.hid hW
  clear hW
  have HB0 : Hid (Below W.heap.size W W) := Below.refl _ _
  have HCL : Hid (∀ w', Hid (Below W.heap.size W w') → w'.cell? ⟨w.heap.size, 0, none⟩ = some (.slice aa ta.length ca) ∧ w'.cell? ⟨w.heap.size + 1, 0, none⟩ = some (.slice ab tb.length cb) ∧ w'.cell? ⟨w.heap.size + 1 + 1, 0, none⟩ = some (.slice ad d.length cd)) := fun w' hb =>
    ⟨(HA.out.box.below hb.out).cell 0, (HB.out.box.below hb.out).cell 0, (HD.out.box.below hb.out).cell 0⟩
  have HVA := Lib.hid (fun w' (hb : Hid (Below W.heap.size W w')) => lw_valid HE HA HD h64 hb)
  have HVB := Lib.hid (fun w' (hb : Hid (Below W.heap.size W w')) => lw_valid HE HB HD h64' hb)
  obtain ⟨x0, y0, z0⟩ := HCL.out W HB0
  clear h64 h64'
  cases hva : validG d ta with
  | false =>
    rw [hva] at HVA
    clear hno
    go_enter Tryz.func24, Tryz.ntmps24
    go_upto_region 1 with (fail)
    rw [HW.out]
    go_upto_region 2 with (go_at_call_of 15 aa; refine (HVA.out _ HB0).mono ?_; rintro e w1 ⟨rfl, HB1⟩; (clear x0 y0 z0; obtain ⟨x0, y0, z0⟩ := HCL.out _ (by assumption)))
    generalize hwz : w1 = wZ at *
    (have HN := Lib.hid (HK.out.below (show Hid (Below W.heap.size W wZ) by assumption).out); have n0 := HN.out.cell 0; have f0 := HN.out.frozen 0; clear x0 y0 z0; go_wp2; refine bodyPost_ret (by simp [results, Tryz.results24, go_sem, n0]; try rfl) rfl ?_; exact ⟨rfl, (HE.out.low.trans ((show Hid (Below W.heap.size W wZ) by assumption).out.mono HE.out.low.size)).setCell (p := ⟨w.heap.size + 1 + 1 + 1, 0, none⟩) (by show w.heap.size ≤ w.heap.size + 1 + 1 + 1; omega) _⟩)
  | true =>
    have hvb : validG d tb = false := by rw [hva] at hno; simpa using hno
    rw [hva] at HVA
    rw [hvb] at HVB
    clear hno
    go_enter Tryz.func24, Tryz.ntmps24
    go_upto_region 1 with (fail)
    rw [HW.out]
    go_upto_region 2 with (first | (go_at_call_of 15 aa; refine (HVA.out _ HB0).mono ?_; rintro e w1 ⟨rfl, HB1⟩; (clear x0 y0 z0; obtain ⟨x0, y0, z0⟩ := HCL.out _ (by assumption))) | (go_at_call_of 15 ab; refine (HVB.out _ HB1).mono ?_; rintro e w2 ⟨rfl, HB2⟩; (clear x0 y0 z0; obtain ⟨x0, y0, z0⟩ := HCL.out _ (by assumption))))
    generalize hwz : w2 = wZ at *
    (have HN := Lib.hid (HK.out.below (show Hid (Below W.heap.size W wZ) by assumption).out); have n0 := HN.out.cell 0; have f0 := HN.out.frozen 0; clear x0 y0 z0; go_wp2; refine bodyPost_ret (by simp [results, Tryz.results24, go_sem, n0]; try rfl) rfl ?_; exact ⟨rfl, (HE.out.low.trans ((show Hid (Below W.heap.size W wZ) by assumption).out.mono HE.out.low.size)).setCell (p := ⟨w.heap.size + 1 + 1 + 1, 0, none⟩) (by show w.heap.size ≤ w.heap.size + 1 + 1 + 1; omega) _⟩)

/-- And at variables of a law, where it refuses -/
theorem lw_andR {w0 W w : World} {ta tb : List Dn} {d : List Fa} {b b' b'' : Nat} {aa ab ad : Option Addr} {ca cb cd : Nat} (HE : Hid (LwS w0 W)) (HA : Hid (DgV W b ta aa ca)) (HB : Hid (DgV W b' tb ab cb)) (HD : Hid (LwD W b'' d ad cd)) (h64 : ∀ n ∈ ta, Dn64 n) (h64' : ∀ n ∈ tb, Dn64 n)
    (hno : (validG d ta && validG d tb) = false) (hW : Hid (Below W.heap.size W w)) :
    Calls Tryz.prog 24 #[.agg #[.slice aa ta.length ca], .agg #[.slice ab tb.length cb], .agg #[.slice ad d.length cd]] w fun e w' => e = .returned (.tuple #[.agg #[.slice none 0 0], .int .i64 1]) ∧ Hid (Below W.heap.size W w') := by
  refine (andR_any (HA.out.step hW.out).dg (HB.out.step hW.out).dg (HD.out.step hW.out).dom (HE.out.step hW.out).tab h64 h64' hno).mono ?_
  rintro e w' ⟨rfl, h2⟩
  exact ⟨rfl, lw_then hW h2⟩
theorem lw_few {W w : World} {t : List Dn} {b : Nat} {a : Option Addr} {c : Nat} (n : Int) (HV : Hid (DgV W b t a c)) (hW : Hid (Below W.heap.size W w)) :
    Calls Tryz.prog 22 #[.agg #[.slice a t.length c], .int .i64 n] w fun e w' => e = .returned (.bool (fewG t n)) ∧ Hid (Below W.heap.size W w') := by
  refine (few_any t n _ w (HV.out.step hW.out).dg).mono ?_
  rintro e w' ⟨rfl, h2⟩
  exact ⟨rfl, lw_then hW h2⟩

end Go.Proofs.YtejbgoigkefnfaaGreatDoor
