/- The walk of DiagramMeans. No conditions. -/
import Derived.Test.YtejbgoigkefnfaaGreatDoorDgSm
import Derived.Test.YtejbgoigkefnfaaGreatDoorHoldsA
import Derived.Test.YtejbgoigkefnfaaGreatDoorFactA
namespace Go.Proofs.YtejbgoigkefnfaaGreatDoor
open Go.RowKit

theorem dgm_then {W w w' : World} (h : Hid (Below W.heap.size W w)) (h' : Below w.heap.size w w') : Hid (Below W.heap.size W w') := h.out.trans (h'.mono h.out.size)

set_option maxRecDepth 100000 in
set_option maxHeartbeats 4000000 in
theorem diagramMeans_any {f : Fo} {d : List Fa} {c : List Int} {v u cv : Value} (w : World) (hf : f.In w w.heap.size v) (hd : DomIn w w.heap.size d u) (hc : IntsIn w w.heap.size c cv) (hT : TabH w.heap.size w) :
    Calls Tryz.prog 3 #[v, u, cv] w fun e w' => e = .returned (.bool true) ∧ Below w.heap.size w w' := by
  obtain ⟨ao, cap, rfl⟩ := hf.shape
  have HD := Lib.hid hd
  have HF := Lib.hid hf
  obtain ⟨du, rfl, hdu⟩ := hd
  obtain ⟨ad, cd, rfl, d1, d2, _⟩ := SlIn.shape hdu
  have HC := Lib.hid hc
  have HTB := Lib.hid hT
  have hb2 : Below w.heap.size w ((w.alloc (.cells #[.int .i64 f.op, .string f.name, .int .i64 f.cmp, .int .i64 f.n, .slice ao f.kids.length cap] 24)).alloc (.cells #[.slice ad d.length cd] 27)) := ((Below.refl _ _).alloc (Nat.le_refl _) _).alloc (by simp) _
  have HK0 : Hid (Blk ((w.alloc (.cells #[.int .i64 f.op, .string f.name, .int .i64 f.cmp, .int .i64 f.n, .slice ao f.kids.length cap] 24)).alloc (.cells #[.slice ad d.length cd] 27)) w.heap.size 24 #[.int .i64 f.op, .string f.name, .int .i64 f.cmp, .int .i64 f.n, .slice ao f.kids.length cap]) := (Blk.new w 24 #[.int .i64 f.op, .string f.name, .int .i64 f.cmp, .int .i64 f.n, .slice ao f.kids.length cap]).alloc _
  have HK1 : Hid (Blk ((w.alloc (.cells #[.int .i64 f.op, .string f.name, .int .i64 f.cmp, .int .i64 f.n, .slice ao f.kids.length cap] 24)).alloc (.cells #[.slice ad d.length cd] 27)) (w.heap.size + 1) 27 #[.slice ad d.length cd]) := hd_two w _ _ _
  have HB2 := Lib.hid hb2
  obtain ⟨W, hW⟩ : ∃ W, ((w.alloc (.cells #[.int .i64 f.op, .string f.name, .int .i64 f.cmp, .int .i64 f.n, .slice ao f.kids.length cap] 24)).alloc (.cells #[.slice ad d.length cd] 27)) = W := ⟨_, rfl⟩
  rw [hW] at hb2 HK0 HK1 HB2
  have HW := Lib.hid hW
  have HHD : Hid (∀ w', Below W.heap.size W w' → Calls Tryz.prog 10 #[] w' fun e w'' => e = .returned (.bool true) ∧ Below w'.heap.size w' w'') := fun w' hb =>
    head_any w' (fun w'' h => HTB.out w'' ((HB2.out.trans (hb.mono HB2.out.size)).trans (h.mono (by have := HB2.out.size; have := hb.size; omega))))
  have HSM : Hid (∀ w', Below w.heap.size w w' → Calls Tryz.prog 11 #[.agg #[.int .i64 f.op, .string f.name, .int .i64 f.cmp, .int .i64 f.n, .slice ao f.kids.length cap], .agg #[.slice ad d.length cd]] w' fun e w'' => e = .returned (.bool (smallB f d)) ∧ Below w'.heap.size w' w'') := fun w' hb =>
    smallD_any f d _ _ w' w.heap.size hb.size (Fo.In.below hb _ _ HF.out) (HD.out.below hb)
  clear hf hdu hc hT hb2 hW
  go_enter Tryz.func3, Tryz.ntmps3
  go_upto_region 1 with (fail)
  rw [HW.out]
  go_upto_region 2 with (go_at_call 10; refine (HHD.out _ (Below.refl _ _)).mono ?_; rintro e w1 ⟨rfl, hb1⟩; have HB1 := Lib.hid (HB2.out.trans (hb1.mono HB2.out.size)); have HA0 := Lib.hid (HK0.out.below hb1); have HA1 := Lib.hid (HK1.out.below hb1); clear hb1; (have x0 := HA0.out.cell 0; have x1 := HA0.out.cell 1; have x2 := HA0.out.cell 2; have x3 := HA0.out.cell 3; have x4 := HA0.out.cell 4; have y0 := HA1.out.cell 0))
  cases hs : smallB f d with
  | false =>
    rw [hs] at HSM
    go_wp2_with (go_at_call 11; refine (HSM.out _ HB1.out).mono ?_; rintro e w2 ⟨rfl, hb2⟩)
    refine bodyPost_ret (by simp [results, Tryz.results3, go_sem]; try rfl) rfl ?_
    exact ⟨rfl, HB1.out.trans (hb2.mono HB1.out.size)⟩
  | true =>
    have hsz : f.size ≤ 250 := by
      unfold smallB at hs
      simp only [Bool.and_eq_true] at hs
      exact smallF_size (most := 250) hs.1.1
    rw [hs] at HSM
    have HBD : Hid (∀ w', Below w.heap.size w w' → Calls Tryz.prog 12 #[.agg #[.int .i64 f.op, .string f.name, .int .i64 f.cmp, .int .i64 f.n, .slice ao f.kids.length cap], .agg #[.slice ad d.length cd]] w' fun e w'' => ∃ (a : Option Addr) (k : Nat), e = .returned (.tuple #[.agg #[.slice a (buildD d f).1.length k], .int .i64 (buildD d f).2]) ∧ Hid (DgIn w'' w''.heap.size (buildD d f).1 (.agg #[.slice a (buildD d f).1.length k])) ∧ Hid (Below w'.heap.size w' w'')) := fun w' hb => by
      refine (build_any f d _ _ w' w.heap.size (by omega) hb.size (Fo.In.below hb _ _ HF.out) (HD.out.below hb) (fun w'' h => HTB.out w'' (hb.trans (h.mono hb.size))) (fun hv hk => built_small hs hv hk)).mono ?_
      rintro e w'' ⟨g, rfl, ⟨u, rfl, h1⟩, h2⟩
      obtain ⟨a, k, rfl, _⟩ := SlIn.shape h1
      exact ⟨a, k, rfl, ⟨_, rfl, h1⟩, h2⟩
    generalize hbd : buildD d f = BD at *
    obtain ⟨t, er⟩ := BD
    go_upto_region 4 with (go_at_call 11; refine (HSM.out _ HB1.out).mono ?_; rintro e w2 ⟨rfl, hb2⟩; have HB3 := Lib.hid (HB1.out.trans (hb2.mono HB1.out.size)); clear x0 x1 x2 x3 x4 y0; have HE0 := Lib.hid (HA0.out.below hb2); have HE1 := Lib.hid (HA1.out.below hb2); clear hb2)
    (have x0 := HE0.out.cell 0; have x1 := HE0.out.cell 1; have x2 := HE0.out.cell 2; have x3 := HE0.out.cell 3; have x4 := HE0.out.cell 4; have y0 := HE1.out.cell 0)
    go_upto_region 5 with (go_at_call 12; refine (HBD.out _ HB3.out).mono ?_; rintro e w3 ⟨ga, gk, rfl, HG, HB4⟩)
    have HV := dgv_new HG
    have hb5 : Below w3.heap.size w3 (w3.alloc (.cells #[.slice ga t.length gk] 34)) := (Below.refl _ _).alloc (Nat.le_refl _) _
    have HB5 := Lib.hid ((HB3.out.trans (HB4.out.mono HB3.out.size)).trans (hb5.mono (by have := HB3.out.size; have := HB4.out.size; omega)))
    have HX0 := Lib.hid ((HE0.out.below HB4.out).below hb5)
    have HX1 := Lib.hid ((HE1.out.below HB4.out).below hb5)
    clear hb5 HB4 HG HE0 HE1 HA0 HA1 HK0 HK1 HHD HSM HBD x0 x1 x2 x3 x4 y0
    generalize w3.alloc (.cells #[.slice ga t.length gk] 34) = W4 at *
    generalize w3.heap.size = b8 at *
    have x0 := HX0.out.cell 0
    have x1 := HX0.out.cell 1
    have x2 := HX0.out.cell 2
    have x3 := HX0.out.cell 3
    have x4 := HX0.out.cell 4
    have y0 := HX1.out.cell 0
    have z8 := HV.out.box.cell 0
    have HVD : Hid (∀ w', Below w.heap.size w w' → Calls Tryz.prog 13 #[.agg #[.slice ad d.length cd]] w' fun e w'' => e = .returned (.bool (validD d)) ∧ Below w'.heap.size w' w'') := fun w' hb =>
      valid_any d _ w' w.heap.size hb.size (HD.out.below hb)
    have HCK : Hid (∀ w', Below w.heap.size w w' → Calls Tryz.prog 14 #[.agg #[.int .i64 f.op, .string f.name, .int .i64 f.cmp, .int .i64 f.n, .slice ao f.kids.length cap], .agg #[.slice ad d.length cd], .slice none 0 0] w' fun e w'' => e = .returned (.int .i64 (checkF f d (fun _ => false))) ∧ Below w'.heap.size w' w'') := fun w' hb =>
      checkP_any f d [] _ _ _ w' w.heap.size (by omega) hb.size (Fo.In.below hb _ _ HF.out) (HD.out.below hb) ⟨none, 0, rfl, Nat.le_refl _, Nat.zero_le _, fun h => absurd rfl h⟩
    have HKP : Hid (∀ w', Below W4.heap.size W4 w' → w'.cell? ⟨w.heap.size + 1, 0, none⟩ = some (.slice ad d.length cd)) := fun w' hb => (HX1.out.below hb).cell 0
    by_cases hv : validD d = true
    · by_cases hk : checkF f d (fun _ => false) = 0
      · by_cases hl : 24 < (tstF f []).length
        · obtain ⟨rfl, rfl⟩ : t = [] ∧ er = 2 := by
            unfold buildD at hbd
            rw [if_neg (by rw [hv, hk]; simp), if_pos hl] at hbd
            simpa [eq_comm] using hbd
          clear hbd
          go_wp2
          refine bodyPost_ret (by simp [results, Tryz.results3, go_sem]; try rfl) rfl ?_
          exact ⟨rfl, HB5.out⟩
        · have h1 : t = tableB d f ∧ er = 0 := by
            unfold buildD at hbd
            rw [if_neg (by rw [hv, hk]; simp), if_neg hl] at hbd
            simpa [eq_comm] using hbd
          obtain ⟨h1, rfl⟩ := h1
          have hVG := built_valid hv (wf_check hk) (built_small hs hv hk)
          have hmean : fitsD d c = true → walkG (tableB d f) c (tableB d f).length 0 = holdsF f d c [] := means_case hs hv hk
          rw [← h1] at hVG hmean
          have HVL : Hid (∀ w', Below W4.heap.size W4 w' → Calls Tryz.prog 15 #[.agg #[.slice ga t.length gk], .agg #[.slice ad d.length cd]] w' fun e w'' => e = .returned (.bool true) ∧ Below w'.heap.size w' w'') := fun w' hb => by
            have q := validG_any d t _ _ w' W4.heap.size hb.size (HV.out.dg.below hb) (((HD.out.below HB5.out).mono HB5.out.size).below hb) (valid_64 hVG) (fun w'' h => HTB.out w'' ((HB5.out.trans (hb.mono HB5.out.size)).trans (h.mono (by have := HB5.out.size; have := hb.size; omega))))
            rw [valid_iff.2 hVG] at q
            exact q
          have HFT : Hid (∀ w', Hid (Below W4.heap.size W4 w') → Calls Tryz.prog 16 #[.agg #[.slice ad d.length cd], cv] w' fun e w'' => e = .returned (.bool (fitsD d c)) ∧ Below w'.heap.size w' w'') := fun w' hb =>
            fits_any d c _ _ w' W4.heap.size hb.out.size (((HD.out.below HB5.out).mono HB5.out.size).below hb.out) (SlIn.mono (OneR.mono _) HB5.out.size (IntsIn.below (HB5.out.trans (hb.out.mono HB5.out.size)) HC.out))
          have HHO : Hid (∀ w', Hid (Below W4.heap.size W4 w') → Calls Tryz.prog 17 #[.agg #[.slice ga t.length gk], cv] w' fun e w'' => e = .returned (.bool (walkG t c t.length 0)) ∧ Below w'.heap.size w' w'') := fun w' hb =>
            holdsG_any t c _ _ w' W4.heap.size hb.out.size (HV.out.dg.below hb.out) (SlIn.mono (OneR.mono _) HB5.out.size (IntsIn.below (HB5.out.trans (hb.out.mono HB5.out.size)) HC.out))
          have HHF : Hid (∀ w', Hid (Below W4.heap.size W4 w') → Calls Tryz.prog 18 #[.agg #[.int .i64 f.op, .string f.name, .int .i64 f.cmp, .int .i64 f.n, .slice ao f.kids.length cap], .agg #[.slice ad d.length cd], cv, .slice none 0 0] w' fun e w'' => e = .returned (.bool (holdsF f d c [])) ∧ Below w'.heap.size w' w'') := fun w' hb => by
            have hbw := HB5.out.trans (hb.out.mono HB5.out.size)
            exact holdsP_any f d c [] _ _ _ _ w' w.heap.size (by omega) hbw.size (Fo.In.below hbw _ _ HF.out) (HD.out.below hbw) (IntsIn.below hbw HC.out) ⟨none, 0, rfl, Nat.le_refl _, Nat.zero_le _, fun h => absurd rfl h⟩
          have HKQ : Hid (∀ w', Hid (Below W4.heap.size W4 w') → (w'.cell? ⟨w.heap.size, 0, none⟩ = some (.int .i64 f.op) ∧ w'.cell? ⟨w.heap.size, 1, none⟩ = some (.string f.name) ∧ w'.cell? ⟨w.heap.size, 2, none⟩ = some (.int .i64 f.cmp) ∧ w'.cell? ⟨w.heap.size, 3, none⟩ = some (.int .i64 f.n) ∧ w'.cell? ⟨w.heap.size, 4, none⟩ = some (.slice ao f.kids.length cap) ∧ w'.cell? ⟨w.heap.size + 1, 0, none⟩ = some (.slice ad d.length cd) ∧ w'.cell? ⟨b8, 0, none⟩ = some (.slice ga t.length gk) ∧ Hid (Below W4.heap.size W4 w'))) := fun w' hb =>
            ⟨(HX0.out.below hb.out).cell 0, (HX0.out.below hb.out).cell 1, (HX0.out.below hb.out).cell 2, (HX0.out.below hb.out).cell 3, (HX0.out.below hb.out).cell 4, (HX1.out.below hb.out).cell 0, (HV.out.box.below hb.out).cell 0, hb⟩
          clear hbd hVG h1 HKP HCK HVD HV HX0 HX1
          go_upto_region 9 with (go_at_call 15; refine (HVL.out _ (Below.refl _ _)).mono ?_; rintro e w5 ⟨rfl, hb5⟩; clear x0 x1 x2 x3 x4 y0 z8; have HW5 := Lib.hid hb5; obtain ⟨x0, x1, x2, x3, x4, y0, z8, _⟩ := HKQ.out _ HW5)
          have HW6 : Hid (Below W4.heap.size W4 w5.drew) := HW5.out.trans ((Below.refl w5.heap.size w5).drew.mono HW5.out.size)
          cases hft : fitsD d c with
          | false =>
            rw [hft] at HFT
            clear hmean HHO HHF HVL x0 x1 x2 x3 x4 y0 z8
            refine wp_region_held_drew (S := (fun w' : World => Hid (Below W4.heap.size W4 w'))) (by kernel_rfl) HW6 (fun hHeld => ?_)
            refine wpAnyH_take (i := 0) (oi := { dst := Option.some 50, op := Go.Op.move (Go.Operand.tmp 7), type := 4, pos := "law.go:77", after := #[], guard := Option.none }) (v := ?v0) rfl (by kernel_rfl) (by kernel_rfl) (by kernel_rfl) (fun _ _ _ h => h) (Or.inl ⟨by rfl, ?y0⟩) (by assumption) ?_
            case y0 => (intro w9 hSw; obtain ⟨x0, x1, x2, x3, x4, y0, z8, _⟩ := HKQ.out _ hSw; go_simp; try with_reducible rfl)
            try simp only [Act.put, List.setIfInBounds_toArray, List.set_cons_zero, List.set_cons_succ]
            refine wpAnyH_take (i := 1) (oi := { dst := Option.some 51, op := Go.Op.move (Go.Operand.tmp 50), type := 4, pos := "law.go:77", after := #[{ on := 0, ground := Go.Ground.data }], guard := Option.none }) (v := ?v1) rfl (by kernel_rfl) (by kernel_rfl) (by kernel_rfl) (fun _ _ _ h => h) (Or.inl ⟨by rfl, ?y1⟩) (by assumption) ?_
            case y1 => (intro w9 hSw; obtain ⟨x0, x1, x2, x3, x4, y0, z8, _⟩ := HKQ.out _ hSw; go_simp; try with_reducible rfl)
            try simp only [Act.put, List.setIfInBounds_toArray, List.set_cons_zero, List.set_cons_succ]
            refine wpAnyH_take (i := 2) (oi := { dst := Option.some 52, op := Go.Op.load 27 (Go.Operand.tmp 4), type := 27, pos := "law.go:77", after := #[{ on := 1, ground := Go.Ground.guard }], guard := Option.some (1, Bool.true) }) (v := ?v2) rfl (by kernel_rfl) (by kernel_rfl) (by kernel_rfl) (fun _ _ _ h => h) (Or.inl ⟨by rfl, ?y2⟩) (by assumption) ?_
            case y2 => (intro w9 hSw; obtain ⟨x0, x1, x2, x3, x4, y0, z8, _⟩ := HKQ.out _ hSw; go_simp; try with_reducible rfl)
            try simp only [Act.put, List.setIfInBounds_toArray, List.set_cons_zero, List.set_cons_succ]
            refine wpAnyH_take (i := 3) (oi := { dst := Option.some 53, op := Go.Op.move (Go.Operand.tmp 2), type := 29, pos := "law.go:77", after := #[{ on := 1, ground := Go.Ground.guard }], guard := Option.some (1, Bool.true) }) (v := ?v3) rfl (by kernel_rfl) (by kernel_rfl) (by kernel_rfl) (fun _ _ _ h => h) (Or.inl ⟨by rfl, ?y3⟩) (by assumption) ?_
            case y3 => (intro w9 hSw; obtain ⟨x0, x1, x2, x3, x4, y0, z8, _⟩ := HKQ.out _ hSw; go_simp; try with_reducible rfl)
            try simp only [Act.put, List.setIfInBounds_toArray, List.set_cons_zero, List.set_cons_succ]
            refine wpAnyH_ready (rs := [4]) (by kernel_rfl) (by simp) ?_
            refine AllReadyH.cons (o := { dst := Option.some 54, op := Go.Op.call { callee := Go.Callee.value (Go.Operand.func 16), args := #[Go.Operand.tmp 52, Go.Operand.tmp 53], argTypes := #[27, 29] }, type := 4, pos := "law.go:77", after := #[{ on := 2, ground := Go.Ground.data }, { on := 3, ground := Go.Ground.data }, { on := 1, ground := Go.Ground.chain }, { on := 1, ground := Go.Ground.guard }], guard := Option.some (1, Bool.true) }) rfl (fun K hK => ?_) AllReadyH.nil
            (go_simp; go_at_call 16; refine (HFT.out _ (by assumption)).mono ?_; rintro e w8 ⟨rfl, hb8⟩; have HW8 := dgm_then (by assumption) hb8)
            refine hK.out _ _ ?_ (fun hHeld => ?_)
            · exact HW8
            clear hK K
            try simp only [Act.put, List.setIfInBounds_toArray, List.set_cons_zero, List.set_cons_succ]
            refine wpAnyH_take (i := 5) (oi := { dst := Option.some 55, op := Go.Op.unOp Go.UnOp.not 4 (Go.Operand.tmp 54), type := 4, pos := "law.go:77", after := #[{ on := 4, ground := Go.Ground.data }, { on := 1, ground := Go.Ground.guard }], guard := Option.some (1, Bool.true) }) (v := ?v5) rfl (by kernel_rfl) (by kernel_rfl) (by kernel_rfl) (fun _ _ _ h => h) (Or.inl ⟨by rfl, ?y5⟩) (by assumption) ?_
            case y5 => (intro w9 hSw; obtain ⟨x0, x1, x2, x3, x4, y0, z8, _⟩ := HKQ.out _ hSw; go_simp; try with_reducible rfl)
            try simp only [Act.put, List.setIfInBounds_toArray, List.set_cons_zero, List.set_cons_succ]
            refine wpAnyH_take (i := 6) (oi := { dst := Option.some 56, op := Go.Op.move (Go.Operand.tmp 55), type := 4, pos := "law.go:77", after := #[{ on := 5, ground := Go.Ground.data }, { on := 4, ground := Go.Ground.chain }, { on := 1, ground := Go.Ground.guard }], guard := Option.some (1, Bool.true) }) (v := ?v6) rfl (by kernel_rfl) (by kernel_rfl) (by kernel_rfl) (fun _ _ _ h => h) (Or.inl ⟨by rfl, ?y6⟩) (by assumption) ?_
            case y6 => (intro w9 hSw; obtain ⟨x0, x1, x2, x3, x4, y0, z8, _⟩ := HKQ.out _ hSw; go_simp; try with_reducible rfl)
            try simp only [Act.put, List.setIfInBounds_toArray, List.set_cons_zero, List.set_cons_succ]
            refine wpAnyH_take (i := 7) (oi := { dst := Option.some 57, op := Go.Op.load 34 (Go.Operand.tmp 8), type := 34, pos := "law.go:77", after := #[{ on := 6, ground := Go.Ground.guard }], guard := Option.some (6, Bool.false) }) (v := undef) rfl (by kernel_rfl) (by kernel_rfl) (by kernel_rfl) (fun _ _ _ h => h) (Or.inr ⟨by rfl, rfl⟩) (by assumption) ?_
            try simp only [Act.put, List.setIfInBounds_toArray, List.set_cons_zero, List.set_cons_succ]
            refine wpAnyH_take (i := 8) (oi := { dst := Option.some 58, op := Go.Op.move (Go.Operand.tmp 2), type := 29, pos := "law.go:77", after := #[{ on := 6, ground := Go.Ground.guard }], guard := Option.some (6, Bool.false) }) (v := undef) rfl (by kernel_rfl) (by kernel_rfl) (by kernel_rfl) (fun _ _ _ h => h) (Or.inr ⟨by rfl, rfl⟩) (by assumption) ?_
            try simp only [Act.put, List.setIfInBounds_toArray, List.set_cons_zero, List.set_cons_succ]
            refine wpAnyH_take (i := 10) (oi := { dst := Option.some 60, op := Go.Op.load 24 (Go.Operand.tmp 3), type := 24, pos := "law.go:77", after := #[{ on := 6, ground := Go.Ground.guard }], guard := Option.some (6, Bool.false) }) (v := undef) rfl (by kernel_rfl) (by kernel_rfl) (by kernel_rfl) (fun _ _ _ h => h) (Or.inr ⟨by rfl, rfl⟩) (by assumption) ?_
            try simp only [Act.put, List.setIfInBounds_toArray, List.set_cons_zero, List.set_cons_succ]
            refine wpAnyH_take (i := 11) (oi := { dst := Option.some 61, op := Go.Op.load 27 (Go.Operand.tmp 4), type := 27, pos := "law.go:77", after := #[{ on := 6, ground := Go.Ground.guard }], guard := Option.some (6, Bool.false) }) (v := undef) rfl (by kernel_rfl) (by kernel_rfl) (by kernel_rfl) (fun _ _ _ h => h) (Or.inr ⟨by rfl, rfl⟩) (by assumption) ?_
            try simp only [Act.put, List.setIfInBounds_toArray, List.set_cons_zero, List.set_cons_succ]
            refine wpAnyH_take (i := 12) (oi := { dst := Option.some 62, op := Go.Op.move (Go.Operand.tmp 2), type := 29, pos := "law.go:77", after := #[{ on := 6, ground := Go.Ground.guard }], guard := Option.some (6, Bool.false) }) (v := undef) rfl (by kernel_rfl) (by kernel_rfl) (by kernel_rfl) (fun _ _ _ h => h) (Or.inr ⟨by rfl, rfl⟩) (by assumption) ?_
            try simp only [Act.put, List.setIfInBounds_toArray, List.set_cons_zero, List.set_cons_succ]
            refine wpAnyH_take (i := 9) (oi := { dst := Option.some 59, op := Go.Op.call { callee := Go.Callee.value (Go.Operand.func 17), args := #[Go.Operand.tmp 57, Go.Operand.tmp 58], argTypes := #[34, 29] }, type := 4, pos := "law.go:77", after := #[{ on := 7, ground := Go.Ground.data }, { on := 8, ground := Go.Ground.data }, { on := 6, ground := Go.Ground.chain }, { on := 6, ground := Go.Ground.guard }], guard := Option.some (6, Bool.false) }) (v := undef) rfl (by kernel_rfl) (by kernel_rfl) (by kernel_rfl) (fun _ _ _ h => h) (Or.inr ⟨by rfl, rfl⟩) (by assumption) ?_
            try simp only [Act.put, List.setIfInBounds_toArray, List.set_cons_zero, List.set_cons_succ]
            refine wpAnyH_take (i := 13) (oi := { dst := Option.some 63, op := Go.Op.call { callee := Go.Callee.value (Go.Operand.func 18), args := #[Go.Operand.tmp 60, Go.Operand.tmp 61, Go.Operand.tmp 62, Go.Operand.const (Go.Value.slice Option.none 0 0)], argTypes := #[24, 27, 29, 88] }, type := 4, pos := "law.go:77", after := #[{ on := 10, ground := Go.Ground.data }, { on := 11, ground := Go.Ground.data }, { on := 12, ground := Go.Ground.data }, { on := 9, ground := Go.Ground.chain }, { on := 6, ground := Go.Ground.guard }], guard := Option.some (6, Bool.false) }) (v := undef) rfl (by kernel_rfl) (by kernel_rfl) (by kernel_rfl) (fun _ _ _ h => h) (Or.inr ⟨by rfl, rfl⟩) (by assumption) ?_
            try simp only [Act.put, List.setIfInBounds_toArray, List.set_cons_zero, List.set_cons_succ]
            refine wpAnyH_take (i := 14) (oi := { dst := Option.some 64, op := Go.Op.binOp Go.BinOp.eql 4 (Go.Operand.tmp 59) (Go.Operand.tmp 63) 4, type := 4, pos := "law.go:77", after := #[{ on := 9, ground := Go.Ground.data }, { on := 13, ground := Go.Ground.data }, { on := 6, ground := Go.Ground.guard }], guard := Option.some (6, Bool.false) }) (v := undef) rfl (by kernel_rfl) (by kernel_rfl) (by kernel_rfl) (fun _ _ _ h => h) (Or.inr ⟨by rfl, rfl⟩) (by assumption) ?_
            try simp only [Act.put, List.setIfInBounds_toArray, List.set_cons_zero, List.set_cons_succ]
            refine wpAnyH_take (i := 15) (oi := { dst := Option.some 65, op := Go.Op.pick (Go.Operand.tmp 56) (Go.Operand.const (Go.Value.bool Bool.true)) (Go.Operand.tmp 64), type := 4, pos := "law.go:77", after := #[{ on := 6, ground := Go.Ground.data }, { on := 14, ground := Go.Ground.data }, { on := 1, ground := Go.Ground.guard }], guard := Option.some (1, Bool.true) }) (v := ?v15) rfl (by kernel_rfl) (by kernel_rfl) (by kernel_rfl) (fun _ _ _ h => h) (Or.inl ⟨by rfl, ?y15⟩) (by assumption) ?_
            case y15 => (intro w9 hSw; obtain ⟨x0, x1, x2, x3, x4, y0, z8, _⟩ := HKQ.out _ hSw; go_simp; try with_reducible rfl)
            try simp only [Act.put, List.setIfInBounds_toArray, List.set_cons_zero, List.set_cons_succ]
            refine wpAnyH_take (i := 16) (oi := { dst := Option.some 66, op := Go.Op.pick (Go.Operand.tmp 51) (Go.Operand.tmp 65) (Go.Operand.const (Go.Value.bool Bool.false)), type := 4, pos := "law.go:77", after := #[{ on := 1, ground := Go.Ground.data }, { on := 15, ground := Go.Ground.data }], guard := Option.none }) (v := ?v16) rfl (by kernel_rfl) (by kernel_rfl) (by kernel_rfl) (fun _ _ _ h => h) (Or.inl ⟨by rfl, ?y16⟩) (by assumption) ?_
            case y16 => (intro w9 hSw; obtain ⟨x0, x1, x2, x3, x4, y0, z8, _⟩ := HKQ.out _ hSw; go_simp; try with_reducible rfl)
            try simp only [Act.put, List.setIfInBounds_toArray, List.set_cons_zero, List.set_cons_succ]
            refine wpAnyH_take (i := 17) (oi := { dst := Option.some 6, op := Go.Op.assign (Go.Operand.tmp 66), type := 4, pos := "law.go:77", after := #[{ on := 16, ground := Go.Ground.data }, { on := 13, ground := Go.Ground.chain }, { on := 0, ground := Go.Ground.phase }, { on := 1, ground := Go.Ground.phase }, { on := 2, ground := Go.Ground.phase }, { on := 3, ground := Go.Ground.phase }, { on := 4, ground := Go.Ground.phase }, { on := 5, ground := Go.Ground.phase }, { on := 6, ground := Go.Ground.phase }, { on := 7, ground := Go.Ground.phase }, { on := 8, ground := Go.Ground.phase }, { on := 9, ground := Go.Ground.phase }, { on := 10, ground := Go.Ground.phase }, { on := 11, ground := Go.Ground.phase }, { on := 12, ground := Go.Ground.phase }, { on := 13, ground := Go.Ground.phase }, { on := 14, ground := Go.Ground.phase }, { on := 15, ground := Go.Ground.phase }, { on := 16, ground := Go.Ground.phase }], guard := Option.none }) (v := ?v17) rfl (by kernel_rfl) (by kernel_rfl) (by kernel_rfl) (fun _ _ _ h => h) (Or.inl ⟨by rfl, ?y17⟩) (by assumption) ?_
            case y17 => (intro w9 hSw; obtain ⟨x0, x1, x2, x3, x4, y0, z8, _⟩ := HKQ.out _ hSw; go_simp; try with_reducible rfl)
            try simp only [Act.put, List.setIfInBounds_toArray, List.set_cons_zero, List.set_cons_succ]
            refine wpAnyH_done (by kernel_rfl) ?_ _
            (go_wp2; refine bodyPost_ret (by simp [results, Tryz.results3, go_sem]; try rfl) rfl ?_; exact ⟨rfl, HB5.out.trans (HW8.out.mono HB5.out.size)⟩)
          | true =>
            have hme := hmean hft
            rw [hft] at HFT
            rw [hme] at HHO
            clear hmean hme HVL
            generalize holdsF f d c [] = R at *
            go_region_held3 (fun w' => (w'.cell? ⟨w.heap.size, 0, none⟩ = some (.int .i64 f.op) ∧ w'.cell? ⟨w.heap.size, 1, none⟩ = some (.string f.name) ∧ w'.cell? ⟨w.heap.size, 2, none⟩ = some (.int .i64 f.cmp) ∧ w'.cell? ⟨w.heap.size, 3, none⟩ = some (.int .i64 f.n) ∧ w'.cell? ⟨w.heap.size, 4, none⟩ = some (.slice ao f.kids.length cap) ∧ w'.cell? ⟨w.heap.size + 1, 0, none⟩ = some (.slice ad d.length cd) ∧ w'.cell? ⟨b8, 0, none⟩ = some (.slice ga t.length gk) ∧ Hid (Below W4.heap.size W4 w')))
              (exact HKQ.out _ (by assumption))
              (first
                | (go_at_call 16; refine (HFT.out _ (by assumption)).mono ?_; rintro e w8 ⟨rfl, hb8⟩; have HW8 : Hid (Below W4.heap.size W4 w8) := HW6.out.trans (hb8.mono (by show W4.heap.size ≤ w5.heap.size; exact HW5.out.size)); clear hb8)
                | (go_at_call 17; refine (HHO.out _ (by assumption)).mono ?_; rintro e w9 ⟨rfl, hb9⟩; have HW9 : Hid (Below W4.heap.size W4 w9) := dgm_then (by assumption) hb9; clear hb9)
                | (go_at_call 18; refine (HHF.out _ (by assumption)).mono ?_; rintro e w7 ⟨rfl, hb7⟩; have HW7 : Hid (Below W4.heap.size W4 w7) := dgm_then (by assumption) hb7; clear hb7))
            all_goals
              go_split_ands
              go_wp2
              refine bodyPost_ret (by simp [results, Tryz.results3, go_sem]; try rfl) rfl ?_
              exact ⟨by simp, HB5.out.trans ((show Hid (Below W4.heap.size W4 _) by assumption).out.mono HB5.out.size)⟩
      · obtain ⟨rfl, rfl⟩ : t = [] ∧ er = 1 := by
          unfold buildD at hbd
          rw [if_pos (.inr hk)] at hbd
          simpa [eq_comm] using hbd
        have hk2 : (checkF f d (fun _ => false) == 0) = false := by simpa using hk
        rw [hv] at HVD
        clear hbd
        go_wp2_with (first
          | (go_at_call 13; refine (HVD.out _ HB5.out).mono ?_; rintro e w5 ⟨rfl, hb5⟩; clear x0 x1 x2 x3 x4 y0; have x0 := (HX0.out.below hb5).cell 0; have x1 := (HX0.out.below hb5).cell 1; have x2 := (HX0.out.below hb5).cell 2; have x3 := (HX0.out.below hb5).cell 3; have x4 := (HX0.out.below hb5).cell 4; have y0 := (HX1.out.below hb5).cell 0; have HB6 := Lib.hid (HB5.out.trans (hb5.mono HB5.out.size)); clear hb5)
          | (go_at_call 14; refine (HCK.out _ HB6.out).mono ?_; rintro e w6 ⟨rfl, hb6⟩))
        refine bodyPost_ret (by simp [results, Tryz.results3, go_sem]; try rfl) rfl ?_
        exact ⟨by simp; exact hk, HB6.out.trans (hb6.mono HB6.out.size)⟩
    · obtain ⟨rfl, rfl⟩ : t = [] ∧ er = 1 := by
        unfold buildD at hbd
        rw [if_pos (.inl (by simpa using hv))] at hbd
        simpa [eq_comm] using hbd
      have hv2 : validD d = false := by simpa using hv
      rw [hv2] at HVD
      clear hbd
      go_wp2_with (go_at_call 13; refine (HVD.out _ HB5.out).mono ?_; rintro e w5 ⟨rfl, hb5⟩)
      refine bodyPost_ret (by simp [results, Tryz.results3, go_sem]; try rfl) rfl ?_
      exact ⟨rfl, HB5.out.trans (hb5.mono HB5.out.size)⟩
end Go.Proofs.YtejbgoigkefnfaaGreatDoor
