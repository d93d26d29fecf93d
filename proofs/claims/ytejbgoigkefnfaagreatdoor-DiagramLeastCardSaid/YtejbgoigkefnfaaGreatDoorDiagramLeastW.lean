/- The walk of DiagramLeast. No conditions. -/
import Derived.Test.YtejbgoigkefnfaaGreatDoorDgLawP
import Derived.Test.YtejbgoigkefnfaaGreatDoorDgLeastL
namespace Go.Proofs.YtejbgoigkefnfaaGreatDoor
open Go.RowKit

set_option maxRecDepth 100000 in
set_option maxHeartbeats 4000000 in
theorem diagramLeast_any {f : Fo} {d : List Fa} {c : List Int} {v u cv : Value} (w : World) (hf : f.In w w.heap.size v) (hd : DomIn w w.heap.size d u) (hc : IntsIn w w.heap.size c cv) (hT : TabH w.heap.size w) :
    Calls Tryz.prog 4 #[v, u, cv] w fun e w' => e = .returned (.bool true) ∧ Below w.heap.size w w' := by
  obtain ⟨a, k, rfl⟩ := hf.shape
  have hd1 := hd
  obtain ⟨du, rfl, hdu⟩ := hd
  obtain ⟨a', k', rfl, _⟩ := SlIn.shape hdu
  obtain ⟨HE, HF, HD⟩ := lw_start hf hd1 hT
  have hb2 : Below w.heap.size w ((w.alloc (.cells #[.int .i64 f.op, .string f.name, .int .i64 f.cmp, .int .i64 f.n, .slice a f.kids.length k] 24)).alloc (.cells #[.slice a' d.length k'] 27)) := ((Below.refl _ _).alloc (Nat.le_refl _) _).alloc (by simp) _
  have HC : Hid (LwC ((w.alloc (.cells #[.int .i64 f.op, .string f.name, .int .i64 f.cmp, .int .i64 f.n, .slice a f.kids.length k] 24)).alloc (.cells #[.slice a' d.length k'] 27)) c cv) := lwc_step hc hb2
  clear hf hd1 hdu hc hT hb2
  obtain ⟨W, hW⟩ : ∃ W, ((w.alloc (.cells #[.int .i64 f.op, .string f.name, .int .i64 f.cmp, .int .i64 f.n, .slice a f.kids.length k] 24)).alloc (.cells #[.slice a' d.length k'] 27)) = W := ⟨_, rfl⟩
  rw [hW] at HE HF HD HC
  have HW := Lib.hid hW
  clear hW
  have HB0 : Hid (Below W.heap.size W W) := Below.refl _ _
  go_enter Tryz.func4, Tryz.ntmps4
  go_upto_region 1 with (fail)
  rw [HW.out]
  go_upto_region 2 with (go_at_call 10; refine (lw_head HE HB0).mono ?_; rintro e w1 ⟨rfl, HB1⟩)
  have x0 := (HF.out.box.below HB1.out).cell 0
  have x1 := (HF.out.box.below HB1.out).cell 1
  have x2 := (HF.out.box.below HB1.out).cell 2
  have x3 := (HF.out.box.below HB1.out).cell 3
  have x4 := (HF.out.box.below HB1.out).cell 4
  have y0 := (HD.out.box.below HB1.out).cell 0
  go_upto_region 3 with (go_at_call 19; refine (lw_pair HE HF HF HD HB1).mono ?_; rintro e w2 ⟨t, t2, a1, a2, c1, c2, rfl, HG, HG2, hp, HB2⟩)
  have HV := (dgv_pair HG HG2).1
  have HB3 : Hid (Below W.heap.size W ((w2.alloc (.cells #[.slice a1 t.length c1] 34)).alloc (.cells #[.slice a2 t2.length c2] 34))) := hd_alloc (hd_alloc HB2)
  have HE3 := Lib.hid (HE.out.step HB3.out)
  have HF3 := Lib.hid (HF.out.step HB3.out)
  have HD3 := Lib.hid (HD.out.step HB3.out)
  have HC3 := Lib.hid (lwc_step HC.out HB3.out)
  have HP := Lib.hid hp
  clear HE HF HD HC HB0 HB1 HB2 HB3 HG HG2 hp HW x0 x1 x2 x3 x4 y0
  generalize ((w2.alloc (.cells #[.slice a1 t.length c1] 34)).alloc (.cells #[.slice a2 t2.length c2] 34)) = W3 at *
  generalize w2.heap.size = b8 at *
  have HB3 : Hid (Below W3.heap.size W3 W3) := Below.refl _ _
  have HCL : Hid (∀ w', Hid (Below W3.heap.size W3 w') → w'.cell? ⟨w.heap.size, 0, none⟩ = some (.int .i64 f.op) ∧ w'.cell? ⟨w.heap.size, 1, none⟩ = some (.string f.name) ∧ w'.cell? ⟨w.heap.size, 2, none⟩ = some (.int .i64 f.cmp) ∧ w'.cell? ⟨w.heap.size, 3, none⟩ = some (.int .i64 f.n) ∧ w'.cell? ⟨w.heap.size, 4, none⟩ = some (.slice a f.kids.length k) ∧
      w'.cell? ⟨w.heap.size + 1, 0, none⟩ = some (.slice a' d.length k') ∧ w'.cell? ⟨b8, 0, none⟩ = some (.slice a1 t.length c1)) := fun w' hb =>
    have p := HF3.out.box.below hb.out
    ⟨p.cell 0, p.cell 1, p.cell 2, p.cell 3, p.cell 4, (HD3.out.box.below hb.out).cell 0, (HV.out.box.below hb.out).cell 0⟩
  obtain ⟨x0, x1, x2, x3, x4, y0, z8⟩ := HCL.out _ HB3
  cases hok : pairB f f d with
  | false =>
    go_wp2
    (refine bodyPost_ret (by simp [results, Tryz.results4, go_sem]; try rfl) rfl ?_; exact ⟨by first | rfl | simp, HE3.out.low.trans ((show Hid (Below W3.heap.size W3 _) by assumption).out.mono HE3.out.low.size)⟩)
  | true =>
    have h1 := (HP.out hok).1
    unfold pairB at hok
    simp only [Bool.and_eq_true, decide_eq_true_eq] at hok
    obtain ⟨⟨⟨hs, _⟩, he⟩, _⟩ := hok
    obtain ⟨hv, hk, _⟩ := build_zero he
    have hVG := built_valid hv (wf_check hk) (built_small hs hv hk)
    have hL := least_law hs hv hk c
    have hsz : f.size ≤ 1000000 := by have := (check_nodes hk).1; omega
    rw [← h1] at hVG hL
    have HLS := Lib.hid (fun w' (hb : Hid (Below W3.heap.size W3 w')) => lw_least HE3 HV HD3 (valid_64 hVG) hb)
    have HL := Lib.hid hL
    have HSZ := Lib.hid hsz
    clear h1 hs he hv hk hVG HP hL hsz
    cases hlg : leastG d t with
    | none =>
      rw [hlg] at HLS HL
      have hn := HL.out.1 rfl
      have HFT := Lib.hid (fun w' (hb : Hid (Below W3.heap.size W3 w')) => lw_fits HD3 HC3 hb)
      have HFH := Lib.hid (fun w' (hb : Hid (Below W3.heap.size W3 w')) => lw_fholds HF3 HD3 HC3 HSZ.out hb)
      clear HL hlg
      go_upto_region 7 with (go_at_call 20; refine (HLS.out _ HB3).mono ?_; rintro e w4 ⟨xa, xk, rfl, HCP, HB4⟩; (clear x0 x1 x2 x3 x4 y0 z8; obtain ⟨x0, x1, x2, x3, x4, y0, z8⟩ := HCL.out _ (by assumption)))
      clear HLS HCP
      cases hft : fitsD d c with
      | false =>
        rw [hft] at HFT
        go_wp2_with (go_at_call_of 16 cv; refine (HFT.out _ (by assumption)).mono ?_; rintro e w5 ⟨rfl, HB5⟩; (clear x0 x1 x2 x3 x4 y0 z8; obtain ⟨x0, x1, x2, x3, x4, y0, z8⟩ := HCL.out _ (by assumption)))
        (refine bodyPost_ret (by simp [results, Tryz.results4, go_sem]; try rfl) rfl ?_; exact ⟨by first | rfl | simp, HE3.out.low.trans ((show Hid (Below W3.heap.size W3 _) by assumption).out.mono HE3.out.low.size)⟩)
      | true =>
        rw [hft] at HFT
        rw [hn hft] at HFH
        clear hn
        go_wp2_with (first | (go_at_call_of 16 cv; refine (HFT.out _ (by assumption)).mono ?_; rintro e w5 ⟨rfl, HB5⟩; (clear x0 x1 x2 x3 x4 y0 z8; obtain ⟨x0, x1, x2, x3, x4, y0, z8⟩ := HCL.out _ (by assumption))) | (go_at_call_of 18 cv; refine (HFH.out _ (by assumption)).mono ?_; rintro e w6 ⟨rfl, HB6⟩; (clear x0 x1 x2 x3 x4 y0 z8; obtain ⟨x0, x1, x2, x3, x4, y0, z8⟩ := HCL.out _ (by assumption))))
        (refine bodyPost_ret (by simp [results, Tryz.results4, go_sem]; try rfl) rfl ?_; exact ⟨by first | rfl | simp, HE3.out.low.trans ((show Hid (Below W3.heap.size W3 _) by assumption).out.mono HE3.out.low.size)⟩)
    | some p =>
      rw [hlg] at HLS HL
      obtain ⟨p1, p2, p3⟩ := HL.out.2 p rfl
      simp only [Option.getD_some, Option.isSome_some] at HLS
      clear HL hlg
      go_upto_region 6 with (go_at_call 20; refine (HLS.out _ HB3).mono ?_; rintro e w4 ⟨xa, xk, rfl, HCP, HB4⟩)
      clear HLS HCL x0 x1 x2 x3 x4 y0 z8
      have HE4 := Lib.hid (HE3.out.step HB4.out)
      have HF4 := Lib.hid (HF3.out.step HB4.out)
      have HD4 := Lib.hid (HD3.out.step HB4.out)
      have HC4 := Lib.hid (lwc_step HC3.out HB4.out)
      have HFP := Lib.hid (fun w' (hb : Hid (Below w4.heap.size w4 w')) => lw_fits HD4 HCP hb)
      have HHP := Lib.hid (fun w' (hb : Hid (Below w4.heap.size w4 w')) => lw_fholds HF4 HD4 HCP HSZ.out hb)
      have HFT := Lib.hid (fun w' (hb : Hid (Below w4.heap.size w4 w')) => lw_fits HD4 HC4 hb)
      have HFH := Lib.hid (fun w' (hb : Hid (Below w4.heap.size w4 w')) => lw_fholds HF4 HD4 HC4 HSZ.out hb)
      have HLE := Lib.hid (fun w' (hb : Hid (Below w4.heap.size w4 w')) => lw_less HC4 HCP hb)
      rw [p1] at HFP
      rw [p2] at HHP
      have HCL : Hid (∀ w', Hid (Below w4.heap.size w4 w') → w'.cell? ⟨w.heap.size, 0, none⟩ = some (.int .i64 f.op) ∧ w'.cell? ⟨w.heap.size, 1, none⟩ = some (.string f.name) ∧ w'.cell? ⟨w.heap.size, 2, none⟩ = some (.int .i64 f.cmp) ∧ w'.cell? ⟨w.heap.size, 3, none⟩ = some (.int .i64 f.n) ∧ w'.cell? ⟨w.heap.size, 4, none⟩ = some (.slice a f.kids.length k) ∧
          w'.cell? ⟨w.heap.size + 1, 0, none⟩ = some (.slice a' d.length k')) := fun w' hb =>
        have p := HF4.out.box.below hb.out
        ⟨p.cell 0, p.cell 1, p.cell 2, p.cell 3, p.cell 4, (HD4.out.box.below hb.out).cell 0⟩
      clear HB3 HB4 HE3 HF3 HD3 HC3 HF4 HD4 HC4 HCP p1 p2 HV
      have HB4 : Hid (Below w4.heap.size w4 w4) := Below.refl _ _
      obtain ⟨x0, x1, x2, x3, x4, y0⟩ := HCL.out _ HB4
      go_upto_region 10 with (first | (go_at_call_of 16 xa; refine (HFP.out _ HB4).mono ?_; rintro e w5 ⟨rfl, HB5⟩; (clear x0 x1 x2 x3 x4 y0; obtain ⟨x0, x1, x2, x3, x4, y0⟩ := HCL.out _ (by assumption))) | (go_at_call_of 18 xa; refine (HHP.out _ HB5).mono ?_; rintro e w6 ⟨rfl, HB6⟩; (clear x0 x1 x2 x3 x4 y0; obtain ⟨x0, x1, x2, x3, x4, y0⟩ := HCL.out _ (by assumption))))
      cases hft : fitsD d c with
      | false =>
        rw [hft] at HFT
        go_wp2_with (go_at_call_of 16 cv; refine (HFT.out _ HB6).mono ?_; rintro e w7 ⟨rfl, HB7⟩; (clear x0 x1 x2 x3 x4 y0; obtain ⟨x0, x1, x2, x3, x4, y0⟩ := HCL.out _ (by assumption)))
        (refine bodyPost_ret (by simp [results, Tryz.results4, go_sem]; try rfl) rfl ?_; exact ⟨by first | rfl | simp, HE4.out.low.trans ((show Hid (Below w4.heap.size w4 _) by assumption).out.mono HE4.out.low.size)⟩)
      | true =>
        rw [hft] at HFT
        cases hll : lessL c p with
        | false =>
          rw [hll] at HLE
          go_wp2_with (first | (go_at_call_of 16 cv; refine (HFT.out _ HB6).mono ?_; rintro e w7 ⟨rfl, HB7⟩; (clear x0 x1 x2 x3 x4 y0; obtain ⟨x0, x1, x2, x3, x4, y0⟩ := HCL.out _ (by assumption))) | (go_at_call 21; refine (HLE.out _ HB7).mono ?_; rintro e w8 ⟨rfl, HB8⟩; (clear x0 x1 x2 x3 x4 y0; obtain ⟨x0, x1, x2, x3, x4, y0⟩ := HCL.out _ (by assumption))))
          (refine bodyPost_ret (by simp [results, Tryz.results4, go_sem]; try rfl) rfl ?_; exact ⟨by first | rfl | simp, HE4.out.low.trans ((show Hid (Below w4.heap.size w4 _) by assumption).out.mono HE4.out.low.size)⟩)
        | true =>
          rw [hll] at HLE
          rw [p3 hft hll] at HFH
          clear p3
          go_wp2_with (first | (go_at_call_of 16 cv; refine (HFT.out _ HB6).mono ?_; rintro e w7 ⟨rfl, HB7⟩; (clear x0 x1 x2 x3 x4 y0; obtain ⟨x0, x1, x2, x3, x4, y0⟩ := HCL.out _ (by assumption))) | (go_at_call 21; refine (HLE.out _ HB7).mono ?_; rintro e w8 ⟨rfl, HB8⟩; (clear x0 x1 x2 x3 x4 y0; obtain ⟨x0, x1, x2, x3, x4, y0⟩ := HCL.out _ (by assumption))) | (go_at_call_of 18 cv; refine (HFH.out _ HB8).mono ?_; rintro e w9 ⟨rfl, HB9⟩; (clear x0 x1 x2 x3 x4 y0; obtain ⟨x0, x1, x2, x3, x4, y0⟩ := HCL.out _ (by assumption))))
          (refine bodyPost_ret (by simp [results, Tryz.results4, go_sem]; try rfl) rfl ?_; exact ⟨by first | rfl | simp, HE4.out.low.trans ((show Hid (Below w4.heap.size w4 _) by assumption).out.mono HE4.out.low.size)⟩)

end Go.Proofs.YtejbgoigkefnfaaGreatDoor
