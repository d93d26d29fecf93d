/- The walk of DiagramRefuses. No conditions. -/
import Derived.Test.YtejbgoigkefnfaaGreatDoorDgRfP
import Derived.Test.YtejbgoigkefnfaaGreatDoorDgLeastL
import Derived.Test.YtejbgoigkefnfaaGreatDoorWitD
namespace Go.Proofs.YtejbgoigkefnfaaGreatDoor
open Go.RowKit

theorem few_64 {t : List Dn} (hn : ∀ n ∈ t, Num64 n) (hf : fewG t 40 = true) : ∀ n ∈ t, Dn64 n := fun n h => by
  unfold fewG at hf
  rw [Bool.and_eq_true] at hf
  have h1 := List.all_eq_true.1 hf.2 n h
  unfold fewN at h1
  simp only [Bool.and_eq_true, decide_eq_true_eq] at h1
  exact ⟨(hn n h).1, (hn n h).2.1, (hn n h).2.2, by omega, by omega⟩

theorem false_leaf {d : List Fa} {t : List Dn} (h : ValidG d t) : t = [⟨0, [], [], false⟩] ↔ liveN (t.getD 0 default) = false := by
  constructor
  · intro e; rw [e]; rfl
  · intro hl
    obtain ⟨h1, h2⟩ := live_false hl
    have hp := (h.table 0 h.pos).leaf h1
    have hv : visitD t (d.length + 1) [] 0 = [0] := by
      unfold visitD
      rw [if_neg (by simp), h1]; rfl
    rw [← h.again, hv]
    show [(⟨(t.getD 0 default).fact, (t.getD 0 default).cuts, (t.getD 0 default).kids.map _, (t.getD 0 default).leaf⟩ : Dn)] = _
    rw [h1, h2, hp.1, hp.2]; rfl

/-- the law of a canonical diagram's least case -/
theorem refuse_law {d : List Fa} {t : List Dn} (h : ValidG d t) : (leastG d t).isSome = !decide (t = [⟨0, [], [], false⟩]) ∧ ∀ p, leastG d t = some p → fitsD d p = true ∧ walkG t p t.length 0 = true := by
  constructor
  · cases hg : leastG d t with
    | none =>
      have : t = [⟨0, [], [], false⟩] := (false_leaf h).2 (by
        cases hl : liveN (t.getD 0 default) with
        | false => rfl
        | true =>
          exfalso
          unfold leastG at hg
          rw [if_pos (valid_iff.2 h), if_pos (end_live h hl).1] at hg
          cases hg)
      rw [decide_eq_true this]; rfl
    | some p =>
      have hl := (least_some h hg).1
      rw [decide_eq_false (fun e => by rw [(false_leaf h).1 e] at hl; cases hl)]; rfl
  · intro p hp
    obtain ⟨_, p1, p2, p3, _⟩ := least_some h hp
    have hf : fitsD d p = true := fits_iff.2 ⟨h.dom, p1, p2⟩
    refine ⟨hf, ?_⟩
    rw [walk_same h.lens, walk_valid h p1 p2]
    exact p3

theorem least_invalid {d : List Fa} {t : List Dn} (h : validG d t = false) : leastG d t = none := by
  unfold leastG
  rw [if_neg (by rw [h]; simp)]

/-- the comparison with the false leaf, written out -/
theorem same_false {W w : World} {t : List Dn} {b : Nat} {a : Option Addr} {c : Nat} (HV : Hid (DgV W b t a c)) (hW : Hid (Below W.heap.size W w)) :
    Calls Tryz.prog 31 #[.agg #[.slice a t.length c], .agg #[.slice (some ⟨w.heap.size, 0, none⟩) 1 1]] (w.alloc (.cells #[.int .i64 0, .slice none 0 0, .slice none 0 0, .bool false] 56)) fun e w' => e = .returned (.bool (decide (t = [⟨0, [], [], false⟩]))) ∧ Hid (Below W.heap.size W w') := by
  have hb : Hid (Below W.heap.size W (w.alloc (.cells #[.int .i64 0, .slice none 0 0, .slice none 0 0, .bool false] 56))) := hd_alloc hW
  refine (sameD_any t [⟨0, [], [], false⟩] _ _ _ (w.alloc (.cells #[.int .i64 0, .slice none 0 0, .slice none 0 0, .bool false] 56)).heap.size (Nat.le_refl _) (HV.out.step hb.out).dg (leaf_lit false (Blk.new w 56 _) (by simp))).mono ?_
  rintro e w' ⟨rfl, h2⟩
  exact ⟨rfl, lw_then hb h2⟩

set_option maxRecDepth 100000 in
set_option maxHeartbeats 4000000 in
theorem diagramRefuses_any {ta tb : List Dn} {d : List Fa} {va vb u : Value} (w : World) (ha : DgIn w w.heap.size ta va) (hna : ∀ n ∈ ta, Num64 n) (hb : DgIn w w.heap.size tb vb) (hnb : ∀ n ∈ tb, Num64 n) (hd : DomIn w w.heap.size d u) (hT : TabH w.heap.size w) :
    Calls Tryz.prog 7 #[va, vb, u] w fun e w' => e = .returned (.bool true) ∧ Below w.heap.size w w' := by
  have ha1 := ha
  have hb1 := hb
  have hd1 := hd
  obtain ⟨_, rfl, h1⟩ := ha
  obtain ⟨_, rfl, h2⟩ := hb
  obtain ⟨_, rfl, h3⟩ := hd
  obtain ⟨aa, ca, rfl, _⟩ := SlIn.shape h1
  obtain ⟨ab, cb, rfl, _⟩ := SlIn.shape h2
  obtain ⟨ad, cd, rfl, d1, d2, _⟩ := SlIn.shape h3
  unfold maxLen at d2
  obtain ⟨HE, HA, HB, HD⟩ := three_start ha1 hb1 hd1 hT
  have HNA := Lib.hid hna
  have HNB := Lib.hid hnb
  clear ha1 hb1 hd1 h1 h2 h3 hT hna hnb
  obtain ⟨W, hW⟩ : ∃ W, (((w.alloc (.cells #[.slice aa ta.length ca] 34)).alloc (.cells #[.slice ab tb.length cb] 34)).alloc (.cells #[.slice ad d.length cd] 27)) = W := ⟨_, rfl⟩
  rw [hW] at HE HA HB HD
  have HW := Lib.hid hW
  clear hW
  have HB0 : Hid (Below W.heap.size W W) := Below.refl _ _
  have HCL : Hid (∀ w', Hid (Below W.heap.size W w') → w'.cell? ⟨w.heap.size, 0, none⟩ = some (.slice aa ta.length ca) ∧ w'.cell? ⟨w.heap.size + 1, 0, none⟩ = some (.slice ab tb.length cb) ∧ w'.cell? ⟨w.heap.size + 1 + 1, 0, none⟩ = some (.slice ad d.length cd)) := fun w' hb =>
    ⟨(HA.out.box.below hb.out).cell 0, (HB.out.box.below hb.out).cell 0, (HD.out.box.below hb.out).cell 0⟩
  obtain ⟨x0, y0, z0⟩ := HCL.out W HB0
  go_enter Tryz.func7, Tryz.ntmps7
  go_upto_region 1 with (fail)
  rw [HW.out]
  go_upto_region 2 with (go_at_call 10; refine (lw_head HE HB0).mono ?_; rintro e w1 ⟨rfl, HB1⟩; (clear x0 y0 z0; obtain ⟨x0, y0, z0⟩ := HCL.out _ (by assumption)))
  cases hfa : fewG ta 40 with
  | false =>
    have hfa2 : fewG ta 40 = false := hfa
    go_wp2_with (go_at_call_of 22 aa; refine (lw_few 40 HA HB1).mono ?_; rw [hfa2]; rintro e w2 ⟨rfl, HB2⟩; (clear x0 y0 z0; obtain ⟨x0, y0, z0⟩ := HCL.out _ (by assumption)))
    (refine bodyPost_ret (by simp [results, Tryz.results7, go_sem]; try rfl) rfl ?_; exact ⟨by first | rfl | simp, HE.out.low.trans ((show Hid (Below W.heap.size W _) by assumption).out.mono HE.out.low.size)⟩)
  | true =>
    cases hfb : fewG tb 40 with
    | false =>
      go_wp2_with (first
        | (go_at_call_of 22 aa; refine (lw_few 40 HA HB1).mono ?_; rw [hfa]; rintro e w2 ⟨rfl, HB2⟩; (clear x0 y0 z0; obtain ⟨x0, y0, z0⟩ := HCL.out _ (by assumption)))
        | (go_at_call_of 22 ab; refine (lw_few 40 HB HB2).mono ?_; rw [hfb]; rintro e w3 ⟨rfl, HB3⟩; (clear x0 y0 z0; obtain ⟨x0, y0, z0⟩ := HCL.out _ (by assumption))))
      (refine bodyPost_ret (by simp [results, Tryz.results7, go_sem]; try rfl) rfl ?_; exact ⟨by first | rfl | simp, HE.out.low.trans ((show Hid (Below W.heap.size W _) by assumption).out.mono HE.out.low.size)⟩)
    | true =>
      have H64A := Lib.hid (few_64 HNA.out hfa)
      have H64B := Lib.hid (few_64 HNB.out hfb)
      by_cases hdl : 70 < d.length
      · go_wp2_with (first
          | (go_at_call_of 22 aa; refine (lw_few 40 HA HB1).mono ?_; rw [hfa]; rintro e w2 ⟨rfl, HB2⟩; (clear x0 y0 z0; obtain ⟨x0, y0, z0⟩ := HCL.out _ (by assumption)))
          | (go_at_call_of 22 ab; refine (lw_few 40 HB HB2).mono ?_; rw [hfb]; rintro e w3 ⟨rfl, HB3⟩; (clear x0 y0 z0; obtain ⟨x0, y0, z0⟩ := HCL.out _ (by assumption))))
        (refine bodyPost_ret (by simp [results, Tryz.results7, go_sem]; try rfl) rfl ?_; exact ⟨by first | rfl | simp, HE.out.low.trans ((show Hid (Below W.heap.size W _) by assumption).out.mono HE.out.low.size)⟩)
      · go_upto_region 4 with (first
          | (go_at_call_of 22 aa; refine (lw_few 40 HA HB1).mono ?_; rw [hfa]; rintro e w2 ⟨rfl, HB2⟩; (clear x0 y0 z0; obtain ⟨x0, y0, z0⟩ := HCL.out _ (by assumption)))
          | (go_at_call_of 22 ab; refine (lw_few 40 HB HB2).mono ?_; rw [hfb]; rintro e w3 ⟨rfl, HB3⟩; (clear x0 y0 z0; obtain ⟨x0, y0, z0⟩ := HCL.out _ (by assumption))))
        clear hfa hfb HB1 HB2 hdl
        cases hva : validG d ta with
        | false =>
          have HLS := Lib.hid (fun w' (hb : Hid (Below W.heap.size W w')) => lw_least HE HA HD H64A.out hb)
          rw [least_invalid hva] at HLS
          simp only [Option.getD_none, Option.isSome_none] at HLS
          have HVL := Lib.hid (fun w' (hb : Hid (Below W.heap.size W w')) => lw_valid HE HA HD H64A.out hb)
          rw [hva] at HVL
          go_upto_region 5 with (go_at_call 20; refine (HLS.out _ HB3).mono ?_; rintro e w4 ⟨xa, xk, rfl, _, HB4⟩; (clear x0 y0 z0; obtain ⟨x0, y0, z0⟩ := HCL.out _ (by assumption)))
          go_upto_region 7 with (go_at_call 15; refine (HVL.out _ HB4).mono ?_; rintro e w5 ⟨rfl, HB5⟩; (clear x0 y0 z0; obtain ⟨x0, y0, z0⟩ := HCL.out _ (by assumption)))
          have hno : (validG d ta && validG d tb) = false := by rw [hva]; rfl
          have hno2 : (validG d tb && validG d ta) = false := by rw [hva]; simp
          go_upto_region 8 with (go_at_call 24; refine (lw_andR HE HA HB HD H64A.out H64B.out hno HB5).mono ?_; rintro e w6 ⟨rfl, HB6⟩)
          have HB7 : Hid (Below W.heap.size W (w6.alloc (.cells #[.slice none 0 0] 34))) := hd_alloc HB6
          have HX : Hid (Blk (w6.alloc (.cells #[.slice none 0 0] 34)) w6.heap.size 34 #[.slice none 0 0]) := Blk.new _ _ _
          have HE7 := Lib.hid (HE.out.step HB7.out)
          have HA7 := Lib.hid (HA.out.step HB7.out)
          have HBB7 := Lib.hid (HB.out.step HB7.out)
          have HD7 := Lib.hid (HD.out.step HB7.out)
          clear x0 y0 z0 HCL HB3 HB4 HB5 HB6 HB7 HE HA HB HD HLS HVL hva HW HB0
          generalize w6.alloc (.cells #[.slice none 0 0] 34) = W7 at *
          generalize w6.heap.size = b10 at *
          have x0 := HA7.out.box.cell 0
          have y0 := HBB7.out.box.cell 0
          have z0 := HD7.out.box.cell 0
          have HB7 : Hid (Below W7.heap.size W7 W7) := Below.refl _ _
          go_upto_region 9 with (go_at_call 24; refine (lw_andR HE7 HBB7 HA7 HD7 H64B.out H64A.out hno2 HB7).mono ?_; rintro e w8 ⟨rfl, HB8⟩)
          have HB9 : Hid (Below W7.heap.size W7 (w8.alloc (.cells #[.slice none 0 0] 34))) := hd_alloc HB8
          have HY : Hid (Blk (w8.alloc (.cells #[.slice none 0 0] 34)) w8.heap.size 34 #[.slice none 0 0]) := Blk.new _ _ _
          have HX9 := Lib.hid (HX.out.below HB9.out)
          clear x0 y0 z0 HB8 HX hno hno2
          generalize w8.alloc (.cells #[.slice none 0 0] 34) = W9 at *
          generalize w8.heap.size = b12 at *
          have p0 := HX9.out.cell 0
          have q0 := HY.out.cell 0
          go_wp2
          refine bodyPost_ret (by simp [results, Tryz.results7, go_sem]; try rfl) rfl ?_
          exact ⟨by first | rfl | simp, HE7.out.low.trans (HB9.out.mono HE7.out.low.size)⟩
        | true =>
          have hV := valid_iff.1 hva
          have hR := refuse_law hV
          have HVL := Lib.hid (fun w' (hb : Hid (Below W.heap.size W w')) => lw_valid HE HA HD H64A.out hb)
          rw [hva] at HVL
          have HLS := Lib.hid (fun w' (hb : Hid (Below W.heap.size W w')) => lw_least HE HA HD H64A.out hb)
          have HSM := Lib.hid (fun w' (hb : Hid (Below W.heap.size W w')) => same_false HA hb)
          cases hg : leastG d ta with
          | none =>
            rw [hg] at hR HLS
            simp only [Option.getD_none, Option.isSome_none] at HLS hR
            have hS : decide (ta = [⟨0, [], [], false⟩]) = true := by simpa using hR.1.symm
            rw [hS] at HSM
            clear hS hR hg hV hva
            go_upto_region 5 with (go_at_call 20; refine (HLS.out _ HB3).mono ?_; rintro e w4 ⟨xa, xk, rfl, _, HB4⟩; (clear x0 y0 z0; obtain ⟨x0, y0, z0⟩ := HCL.out _ (by assumption)))
            go_upto_region 6 with (go_at_call 15; refine (HVL.out _ HB4).mono ?_; rintro e w5 ⟨rfl, HB5⟩; (clear x0 y0 z0; obtain ⟨x0, y0, z0⟩ := HCL.out _ (by assumption)))
            go_wp2_with (go_at_call 31; refine (HSM.out _ HB5).mono ?_; rintro e w6 ⟨rfl, HB6⟩; (clear x0 y0 z0; obtain ⟨x0, y0, z0⟩ := HCL.out _ (by assumption)))
            (refine bodyPost_ret (by simp [results, Tryz.results7, go_sem]; try rfl) rfl ?_; exact ⟨by first | rfl | simp, HE.out.low.trans ((show Hid (Below W.heap.size W _) by assumption).out.mono HE.out.low.size)⟩)
          | some p =>
            rw [hg] at hR HLS
            simp only [Option.getD_some, Option.isSome_some] at HLS hR
            have hS : decide (ta = [⟨0, [], [], false⟩]) = false := by simpa using hR.1.symm
            obtain ⟨hf, hh⟩ := hR.2 p rfl
            clear hR hg hV
            go_upto_region 5 with (go_at_call 20; refine (HLS.out _ HB3).mono ?_; rintro e w4 ⟨xa, xk, rfl, HCP, HB4⟩)
            have HE4 := Lib.hid (HE.out.step HB4.out)
            have HA4 := Lib.hid (HA.out.step HB4.out)
            have HD4 := Lib.hid (HD.out.step HB4.out)
            have HVL4 := Lib.hid (fun w' (hb : Hid (Below w4.heap.size w4 w')) => lw_valid HE4 HA4 HD4 H64A.out hb)
            have HSM4 := Lib.hid (fun w' (hb : Hid (Below w4.heap.size w4 w')) => same_false HA4 hb)
            have HFT := Lib.hid (fun w' (hb : Hid (Below w4.heap.size w4 w')) => lw_fits HD4 HCP hb)
            have HHO := Lib.hid (fun w' (hb : Hid (Below w4.heap.size w4 w')) => lw_holds HA4 HCP hb)
            rw [hva] at HVL4
            rw [hS] at HSM4
            rw [hf] at HFT
            rw [hh] at HHO
            have HCL4 : Hid (∀ w', Hid (Below w4.heap.size w4 w') → w'.cell? ⟨w.heap.size, 0, none⟩ = some (.slice aa ta.length ca) ∧ w'.cell? ⟨w.heap.size + 1 + 1, 0, none⟩ = some (.slice ad d.length cd)) := fun w' hb =>
              ⟨(HA4.out.box.below hb.out).cell 0, (HD4.out.box.below hb.out).cell 0⟩
            clear x0 y0 z0 HCL HB3 HB4 HE HA HB HD HLS HVL HSM HW HB0 hf hh hS hva HCP HA4 HD4
            have HB4 : Hid (Below w4.heap.size w4 w4) := Below.refl _ _
            obtain ⟨x0, z0⟩ := HCL4.out _ HB4
            go_upto_region 6 with (go_at_call 15; refine (HVL4.out _ HB4).mono ?_; rintro e w5 ⟨rfl, HB5⟩; (clear x0 z0; obtain ⟨x0, z0⟩ := HCL4.out _ (by assumption)))
            go_wp2_with (first
              | (go_at_call 31; refine (HSM4.out _ HB5).mono ?_; rintro e w6 ⟨rfl, HB6⟩; (clear x0 z0; obtain ⟨x0, z0⟩ := HCL4.out _ (by assumption)))
              | (go_at_call 16; refine (HFT.out _ HB6).mono ?_; rintro e w7 ⟨rfl, HB7⟩; (clear x0 z0; obtain ⟨x0, z0⟩ := HCL4.out _ (by assumption)))
              | (go_at_call 17; refine (HHO.out _ HB7).mono ?_; rintro e w8 ⟨rfl, HB8⟩; (clear x0 z0; obtain ⟨x0, z0⟩ := HCL4.out _ (by assumption))))
            refine bodyPost_ret (by simp [results, Tryz.results7, go_sem]; try rfl) rfl ?_
            exact ⟨by first | rfl | simp, HE4.out.low.trans (HB8.out.mono HE4.out.low.size)⟩

end Go.Proofs.YtejbgoigkefnfaaGreatDoor
