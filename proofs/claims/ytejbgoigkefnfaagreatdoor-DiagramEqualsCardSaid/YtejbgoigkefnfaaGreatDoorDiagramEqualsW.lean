/- The walk of DiagramEquals. No conditions. -/
import Derived.Test.YtejbgoigkefnfaaGreatDoorDgNt
import Derived.Test.YtejbgoigkefnfaaGreatDoorDgSF
namespace Go.Proofs.YtejbgoigkefnfaaGreatDoor
open Go.RowKit
theorem not_new {W w : World} {t : List Dn} {b : Nat} {a : Option Addr} {c : Nat} (hl : t.length <= 1000000) (HV : Hid (DgV W b t a c)) (hW : Hid (Below W.heap.size W w)) :
  Calls Tryz.prog 32 #[.agg #[.slice a t.length c]] w fun e w' => ∃ (x : Option Addr) (k : Nat), e = .returned (.agg #[.slice x (notD t).length k]) /\ Hid (DgIn w' w'.heap.size (notD t) (.agg #[.slice x (notD t).length k])) /\ Hid (Below w.heap.size w w') := by
 refine (notG_any hl (HV.out.step hW.out).dg).mono ?_; rintro e w' ⟨x, k, rfl, h1, h2⟩; exact ⟨x, k, rfl, h1, h2⟩
theorem and_new {w0 W w : World} {ta tb u : List Dn} {d : List Fa} {b b'' : Nat} {aa ab ad : Option Addr} {ca cb cd : Nat} (HE : Hid (LwS w0 W)) (HA : Hid (DgV W b ta aa ca)) (HD : Hid (LwD W b'' d ad cd)) (h64 : ∀ n ∈ ta, Dn64 n) (h64' : ∀ n ∈ tb, Dn64 n) (hu : andX d ta tb = (u, 0)) (hg : Hid (DgIn w w.heap.size tb (.agg #[.slice ab tb.length cb]))) (hW : Hid (Below W.heap.size W w)) :
  Calls Tryz.prog 24 #[.agg #[.slice aa ta.length ca], .agg #[.slice ab tb.length cb], .agg #[.slice ad d.length cd]] w fun e w' => ∃ (x : Option Addr) (k : Nat), e = .returned (.tuple #[.agg #[.slice x u.length k], .int .i64 0]) /\ Hid (DgIn w' w'.heap.size u (.agg #[.slice x u.length k])) /\ Hid (Below w.heap.size w w') := by
 have q := andX_any (HA.out.step hW.out).dg hg.out (HD.out.step hW.out).dom (HE.out.step hW.out).tab h64 h64'; rw [hu] at q; refine q.mono ?_; rintro e w' ⟨x, k, rfl, h1, h2⟩; exact ⟨x, k, rfl, h1, h2⟩
theorem dg_alloc {w : World} {t : List Dn} {v : Value} {o : Obj} (h : Hid (DgIn w w.heap.size t v)) : Hid (DgIn (w.alloc o) (w.alloc o).heap.size t v) := (h.out.below ((Below.refl _ _).alloc (Nat.le_refl _) _)).mono (by simp)
set_option maxRecDepth 100000 in
set_option maxHeartbeats 8000000 in
theorem diagramEquals_any {f h : Fo} {d : List Fa} {c : List Int} {v vh u cv : Value} (w : World) (hf : f.In w w.heap.size v) (hh : h.In w w.heap.size vh) (hd : DomIn w w.heap.size d u) (hc : IntsIn w w.heap.size c cv) (hT : TabH w.heap.size w) :
  Calls Tryz.prog 9 #[v, vh, u, cv] w fun e w' => e = .returned (.bool true) /\ Below w.heap.size w w' := by
 obtain ⟨a, k, rfl⟩ := hf.shape; obtain ⟨ah, kh, rfl⟩ := hh.shape; have hd1 := hd; obtain ⟨du, rfl, hdu⟩ := hd; obtain ⟨a', k', rfl, _⟩ := SlIn.shape hdu; obtain ⟨HE, HF, HH, HD, HB0⟩ := lw_start2 hf hh hd1 hT; have HC : Hid (LwC (((w.alloc (.cells #[.int .i64 f.op, .string f.name, .int .i64 f.cmp, .int .i64 f.n, .slice a f.kids.length k] 24)).alloc (.cells #[.int .i64 h.op, .string h.name, .int .i64 h.cmp, .int .i64 h.n, .slice ah h.kids.length kh] 24)).alloc (.cells #[.slice a' d.length k'] 27)) c cv) := lwc_step hc HB0.out; clear hf hh hd1 hdu hc hT HB0; obtain ⟨W, hW⟩ : ∃ W, (((w.alloc (.cells #[.int .i64 f.op, .string f.name, .int .i64 f.cmp, .int .i64 f.n, .slice a f.kids.length k] 24)).alloc (.cells #[.int .i64 h.op, .string h.name, .int .i64 h.cmp, .int .i64 h.n, .slice ah h.kids.length kh] 24)).alloc (.cells #[.slice a' d.length k'] 27)) = W := ⟨_, rfl⟩; rw [hW] at HE HF HH HD HC; have HW := Lib.hid hW; clear hW; have HB0 : Hid (Below W.heap.size W W) := Below.refl _ _; go_enter Tryz.func9, Tryz.ntmps9; go_upto_region 1 with (fail); rw [HW.out]; go_upto_region 2 with (go_at_call 10; refine (lw_head HE HB0).mono ?_; rintro e w1 ⟨rfl, HB1⟩); have x0 := (HF.out.box.below HB1.out).cell 0; have x1 := (HF.out.box.below HB1.out).cell 1; have x2 := (HF.out.box.below HB1.out).cell 2; have x3 := (HF.out.box.below HB1.out).cell 3; have x4 := (HF.out.box.below HB1.out).cell 4; have u0 := (HH.out.box.below HB1.out).cell 0; have u1 := (HH.out.box.below HB1.out).cell 1; have u2 := (HH.out.box.below HB1.out).cell 2; have u3 := (HH.out.box.below HB1.out).cell 3; have u4 := (HH.out.box.below HB1.out).cell 4; have y0 := (HD.out.box.below HB1.out).cell 0; go_upto_region 3 with (go_at_call 19; refine (lw_pair HE HF HH HD HB1).mono ?_; rintro e w2 ⟨t, t2, a1, a2, c1, c2, rfl, HG, HG2, hp, HB2⟩); obtain ⟨HV, HU⟩ := dgv_pair HG HG2; have HB3 : Hid (Below W.heap.size W ((w2.alloc (.cells #[.slice a1 t.length c1] 34)).alloc (.cells #[.slice a2 t2.length c2] 34))) := hd_alloc (hd_alloc HB2); have HE3 := Lib.hid (HE.out.step HB3.out); have HF3 := Lib.hid (HF.out.step HB3.out); have HH3 := Lib.hid (HH.out.step HB3.out); have HD3 := Lib.hid (HD.out.step HB3.out); have HC3 := Lib.hid (lwc_step HC.out HB3.out); have HP := Lib.hid hp; clear HE HF HH HD HC HB0 HB1 HB2 HB3 HG HG2 hp HW x0 x1 x2 x3 x4 u0 u1 u2 u3 u4 y0; generalize ((w2.alloc (.cells #[.slice a1 t.length c1] 34)).alloc (.cells #[.slice a2 t2.length c2] 34)) = W3 at *
 generalize w2.heap.size + 1 = b9 at *
 generalize w2.heap.size = b8 at *
 have HB3 : Hid (Below W3.heap.size W3 W3) := Below.refl _ _; cases hok : pairB f h d with
 | false =>
  go_wp2
  (refine bodyPost_ret (by simp [results, Tryz.results9, go_sem]; try rfl) rfl ?_; exact ⟨by first | rfl | simp, HE3.out.low.trans ((show Hid (Below W3.heap.size W3 _) by assumption).out.mono HE3.out.low.size)⟩)
 | true =>
  obtain ⟨h1, h2⟩ := HP.out hok; obtain ⟨sf, sh⟩ := pair_small hok; have hfs : f.size <= 1000000 := by have := (check_nodes sf.check).1; omega
  have hhs : h.size <= 1000000 := by have := (check_nodes sh.check).1; omega
  have z8 := HV.out.box.cell 0; have z9 := HU.out.box.cell 0; by_cases hsame : t = t2
  ·have hsm := lw_same HV HU HB3
   rw [decide_eq_true hsame] at hsm; have HSH := Lib.hid (fun hft => same_holds sf sh (h1.symm.trans (hsame.trans h2)) (c := c) hft); clear h1 h2 sf sh HP hsame; go_upto_region 6 with (go_at_call 31; refine hsm.mono ?_; rintro e W4 ⟨rfl, HB4⟩); have HE := Lib.hid (HE3.out.step HB4.out); have HF := Lib.hid (HF3.out.step HB4.out); have HH := Lib.hid (HH3.out.step HB4.out); have HD := Lib.hid (HD3.out.step HB4.out); have HC := Lib.hid (lwc_step HC3.out HB4.out); clear HE3 HF3 HH3 HD3 HC3 HV HU HB3 HB4 hsm z8 z9; rename World => W3
   rename Hid (LwS _ _) => HE3
   have HCL : Hid (∀ w', Hid (Below W3.heap.size W3 w') -> (w'.cell? ⟨w.heap.size, 0, none⟩ = some (.int .i64 f.op) /\ w'.cell? ⟨w.heap.size, 1, none⟩ = some (.string f.name) /\ w'.cell? ⟨w.heap.size, 2, none⟩ = some (.int .i64 f.cmp) /\ w'.cell? ⟨w.heap.size, 3, none⟩ = some (.int .i64 f.n) /\ w'.cell? ⟨w.heap.size, 4, none⟩ = some (.slice a f.kids.length k) /\ w'.cell? ⟨w.heap.size + 1, 0, none⟩ = some (.int .i64 h.op) /\ w'.cell? ⟨w.heap.size + 1, 1, none⟩ = some (.string h.name) /\ w'.cell? ⟨w.heap.size + 1, 2, none⟩ = some (.int .i64 h.cmp) /\ w'.cell? ⟨w.heap.size + 1, 3, none⟩ = some (.int .i64 h.n) /\ w'.cell? ⟨w.heap.size + 1, 4, none⟩ = some (.slice ah h.kids.length kh) /\ w'.cell? ⟨w.heap.size + 1 + 1, 0, none⟩ = some (.slice a' d.length k'))) := fun w' hb =>
    have p := HF.out.box.below hb.out; have q := HH.out.box.below hb.out
    ⟨p.cell 0, p.cell 1, p.cell 2, p.cell 3, p.cell 4, q.cell 0, q.cell 1, q.cell 2, q.cell 3, q.cell 4, (HD.out.box.below hb.out).cell 0⟩
   have CFT := Lib.hid (fun w' (hb : Hid (Below W3.heap.size W3 w')) => lw_fits HD HC hb); have CHF := Lib.hid (fun w' (hb : Hid (Below W3.heap.size W3 w')) => lw_fholds HF HD HC hfs hb); have CHH := Lib.hid (fun w' (hb : Hid (Below W3.heap.size W3 w')) => lw_fholds HH HD HC hhs hb); have HBX : Hid (Below W3.heap.size W3 W3.drew) := (Below.refl _ _).drew; cases hft : fitsD d c with
   | false =>
    rw [hft] at CFT; clear CHF CHH HSH; refine wp_region_held_drew (S := (fun w' : World => Hid (Below W3.heap.size W3 w'))) (by kernel_rfl) HBX (fun hHeld => ?_); refine tp 0 ⟨some 36, .move (.tmp 9), 4, "law.go:98", #[], none⟩ ?_
    try simp only [Act.put, sA, sB, sC]
    refine tp 1 ⟨some 37, .move (.tmp 36), 4, "law.go:98", #[⟨0, .data⟩], none⟩ ?_
    try simp only [Act.put, sA, sB, sC]
    refine tk 2 ⟨some 38, .load 27 (.tmp 6), 27, "law.go:98", #[⟨1, .guard⟩], some (1, true)⟩ ?vax2 ?yax2 ?_
    case yax2 => (intro w9 hSw; obtain ⟨x0, x1, x2, x3, x4, u0, u1, u2, u3, u4, y0⟩ := HCL.out w9 hSw; go_simp; try with_reducible rfl)
    try simp only [Act.put, sA, sB, sC]
    refine tp 3 ⟨some 39, .move (.tmp 3), 29, "law.go:98", #[⟨1, .guard⟩], some (1, true)⟩ ?_
    try simp only [Act.put, sA, sB, sC]
    refine tr 4 ⟨some 40, .call { callee := .value (.func 16), args := #[.tmp 38, .tmp 39], argTypes := #[27, 29] }, 4, "law.go:98", #[⟨2, .data⟩, ⟨3, .data⟩, ⟨1, .chain⟩, ⟨1, .guard⟩], some (1, true)⟩ (fun K hK => ?_)
    (go_simp; go_at_call 16; refine (CFT.out _ HBX).mono ?_; rintro e v1 ⟨rfl, HC1⟩)
    refine hK.out _ _ ?_ (fun hHeld => ?_)
    ·exact HC1
    clear hK K
    try simp only [Act.put, sA, sB, sC]
    refine tp 5 ⟨some 41, .unOp .not 4 (.tmp 40), 4, "law.go:98", #[⟨4, .data⟩, ⟨1, .guard⟩], some (1, true)⟩ ?_
    try simp only [Act.put, sA, sB, sC]
    refine tp 6 ⟨some 42, .move (.tmp 41), 4, "law.go:98", #[⟨5, .data⟩, ⟨4, .chain⟩, ⟨1, .guard⟩], some (1, true)⟩ ?_
    try simp only [Act.put, sA, sB, sC]
    refine tu 7 ⟨some 43, .load 24 (.tmp 4), 24, "law.go:98", #[⟨6, .guard⟩], some (6, false)⟩ ?_
    try simp only [Act.put, sA, sB, sC]
    refine tu 8 ⟨some 44, .load 27 (.tmp 6), 27, "law.go:98", #[⟨6, .guard⟩], some (6, false)⟩ ?_
    try simp only [Act.put, sA, sB, sC]
    refine tu 9 ⟨some 45, .move (.tmp 3), 29, "law.go:98", #[⟨6, .guard⟩], some (6, false)⟩ ?_
    try simp only [Act.put, sA, sB, sC]
    refine tu 11 ⟨some 47, .load 24 (.tmp 5), 24, "law.go:98", #[⟨6, .guard⟩], some (6, false)⟩ ?_
    try simp only [Act.put, sA, sB, sC]
    refine tu 12 ⟨some 48, .load 27 (.tmp 6), 27, "law.go:98", #[⟨6, .guard⟩], some (6, false)⟩ ?_
    try simp only [Act.put, sA, sB, sC]
    refine tu 13 ⟨some 49, .move (.tmp 3), 29, "law.go:98", #[⟨6, .guard⟩], some (6, false)⟩ ?_
    try simp only [Act.put, sA, sB, sC]
    refine tu 10 ⟨some 46, .call { callee := .value (.func 18), args := #[.tmp 43, .tmp 44, .tmp 45, .const (.slice none 0 0)], argTypes := #[24, 27, 29, 88] }, 4, "law.go:98", #[⟨7, .data⟩, ⟨8, .data⟩, ⟨9, .data⟩, ⟨6, .chain⟩, ⟨6, .guard⟩], some (6, false)⟩ ?_
    try simp only [Act.put, sA, sB, sC]
    refine tu 14 ⟨some 50, .call { callee := .value (.func 18), args := #[.tmp 47, .tmp 48, .tmp 49, .const (.slice none 0 0)], argTypes := #[24, 27, 29, 88] }, 4, "law.go:98", #[⟨11, .data⟩, ⟨12, .data⟩, ⟨13, .data⟩, ⟨10, .chain⟩, ⟨6, .guard⟩], some (6, false)⟩ ?_
    try simp only [Act.put, sA, sB, sC]
    refine tu 15 ⟨some 51, .binOp .eql 4 (.tmp 46) (.tmp 50) 4, 4, "law.go:98", #[⟨10, .data⟩, ⟨14, .data⟩, ⟨6, .guard⟩], some (6, false)⟩ ?_
    try simp only [Act.put, sA, sB, sC]
    refine tp 16 ⟨some 52, .pick (.tmp 42) (.const (.bool true)) (.tmp 51), 4, "law.go:98", #[⟨6, .data⟩, ⟨15, .data⟩, ⟨1, .guard⟩], some (1, true)⟩ ?_
    try simp only [Act.put, sA, sB, sC]
    refine tp 17 ⟨some 53, .pick (.tmp 37) (.tmp 52) (.const (.bool false)), 4, "law.go:98", #[⟨1, .data⟩, ⟨16, .data⟩], none⟩ ?_
    try simp only [Act.put, sA, sB, sC]
    refine tp 18 ⟨some 8, .assign (.tmp 53), 4, "law.go:98", #[⟨17, .data⟩, ⟨14, .chain⟩, ⟨0, .phase⟩, ⟨1, .phase⟩, ⟨2, .phase⟩, ⟨3, .phase⟩, ⟨4, .phase⟩, ⟨5, .phase⟩, ⟨6, .phase⟩, ⟨7, .phase⟩, ⟨8, .phase⟩, ⟨9, .phase⟩, ⟨10, .phase⟩, ⟨11, .phase⟩, ⟨12, .phase⟩, ⟨13, .phase⟩, ⟨14, .phase⟩, ⟨15, .phase⟩, ⟨16, .phase⟩, ⟨17, .phase⟩], none⟩ ?_
    try simp only [Act.put, sA, sB, sC]
    refine wpAnyH_done (by kernel_rfl) ?_ _
    (go_wp2; (refine bodyPost_ret (by simp [results, Tryz.results9, go_sem]; try rfl) rfl ?_; exact ⟨by first | rfl | simp, HE3.out.low.trans ((show Hid (Below W3.heap.size W3 _) by assumption).out.mono HE3.out.low.size)⟩))
   | true =>
    rw [hft] at CFT; have q := HSH.out hft; rw [q] at CHF; clear HSH q; generalize holdsF h d c [] = hb at *
    have hbb : (hb == hb) = true := by simp
    refine wp_region_held_drew (S := (fun w' : World => Hid (Below W3.heap.size W3 w'))) (by kernel_rfl) HBX (fun hHeld => ?_); refine tp 0 ⟨some 36, .move (.tmp 9), 4, "law.go:98", #[], none⟩ ?_
    try simp only [Act.put, sA, sB, sC]
    refine tp 1 ⟨some 37, .move (.tmp 36), 4, "law.go:98", #[⟨0, .data⟩], none⟩ ?_
    try simp only [Act.put, sA, sB, sC]
    refine tk 2 ⟨some 38, .load 27 (.tmp 6), 27, "law.go:98", #[⟨1, .guard⟩], some (1, true)⟩ ?vbx2 ?ybx2 ?_
    case ybx2 => (intro w9 hSw; obtain ⟨x0, x1, x2, x3, x4, u0, u1, u2, u3, u4, y0⟩ := HCL.out w9 hSw; go_simp; try with_reducible rfl)
    try simp only [Act.put, sA, sB, sC]
    refine tp 3 ⟨some 39, .move (.tmp 3), 29, "law.go:98", #[⟨1, .guard⟩], some (1, true)⟩ ?_
    try simp only [Act.put, sA, sB, sC]
    refine tr 4 ⟨some 40, .call { callee := .value (.func 16), args := #[.tmp 38, .tmp 39], argTypes := #[27, 29] }, 4, "law.go:98", #[⟨2, .data⟩, ⟨3, .data⟩, ⟨1, .chain⟩, ⟨1, .guard⟩], some (1, true)⟩ (fun K hK => ?_)
    (go_simp; go_at_call 16; refine (CFT.out _ HBX).mono ?_; rintro e v1 ⟨rfl, HC1⟩)
    refine hK.out _ _ ?_ (fun hHeld => ?_)
    ·exact HC1
    clear hK K
    try simp only [Act.put, sA, sB, sC]
    refine tp 5 ⟨some 41, .unOp .not 4 (.tmp 40), 4, "law.go:98", #[⟨4, .data⟩, ⟨1, .guard⟩], some (1, true)⟩ ?_
    try simp only [Act.put, sA, sB, sC]
    refine tp 6 ⟨some 42, .move (.tmp 41), 4, "law.go:98", #[⟨5, .data⟩, ⟨4, .chain⟩, ⟨1, .guard⟩], some (1, true)⟩ ?_
    try simp only [Act.put, sA, sB, sC]
    refine tk 7 ⟨some 43, .load 24 (.tmp 4), 24, "law.go:98", #[⟨6, .guard⟩], some (6, false)⟩ ?vbx7 ?ybx7 ?_
    case ybx7 => (intro w9 hSw; obtain ⟨x0, x1, x2, x3, x4, u0, u1, u2, u3, u4, y0⟩ := HCL.out w9 hSw; go_simp; try with_reducible rfl)
    try simp only [Act.put, sA, sB, sC]
    refine tk 8 ⟨some 44, .load 27 (.tmp 6), 27, "law.go:98", #[⟨6, .guard⟩], some (6, false)⟩ ?vbx8 ?ybx8 ?_
    case ybx8 => (intro w9 hSw; obtain ⟨x0, x1, x2, x3, x4, u0, u1, u2, u3, u4, y0⟩ := HCL.out w9 hSw; go_simp; try with_reducible rfl)
    try simp only [Act.put, sA, sB, sC]
    refine tp 9 ⟨some 45, .move (.tmp 3), 29, "law.go:98", #[⟨6, .guard⟩], some (6, false)⟩ ?_
    try simp only [Act.put, sA, sB, sC]
    refine tk 11 ⟨some 47, .load 24 (.tmp 5), 24, "law.go:98", #[⟨6, .guard⟩], some (6, false)⟩ ?vbx11 ?ybx11 ?_
    case ybx11 => (intro w9 hSw; obtain ⟨x0, x1, x2, x3, x4, u0, u1, u2, u3, u4, y0⟩ := HCL.out w9 hSw; go_simp; try with_reducible rfl)
    try simp only [Act.put, sA, sB, sC]
    refine tk 12 ⟨some 48, .load 27 (.tmp 6), 27, "law.go:98", #[⟨6, .guard⟩], some (6, false)⟩ ?vbx12 ?ybx12 ?_
    case ybx12 => (intro w9 hSw; obtain ⟨x0, x1, x2, x3, x4, u0, u1, u2, u3, u4, y0⟩ := HCL.out w9 hSw; go_simp; try with_reducible rfl)
    try simp only [Act.put, sA, sB, sC]
    refine tp 13 ⟨some 49, .move (.tmp 3), 29, "law.go:98", #[⟨6, .guard⟩], some (6, false)⟩ ?_
    try simp only [Act.put, sA, sB, sC]
    refine tr 10 ⟨some 46, .call { callee := .value (.func 18), args := #[.tmp 43, .tmp 44, .tmp 45, .const (.slice none 0 0)], argTypes := #[24, 27, 29, 88] }, 4, "law.go:98", #[⟨7, .data⟩, ⟨8, .data⟩, ⟨9, .data⟩, ⟨6, .chain⟩, ⟨6, .guard⟩], some (6, false)⟩ (fun K hK => ?_)
    (go_simp; go_at_call 18; refine (CHF.out _ HC1).mono ?_; rintro e v2 ⟨rfl, HC2⟩)
    refine hK.out _ _ ?_ (fun hHeld => ?_)
    ·exact HC2
    clear hK K
    try simp only [Act.put, sA, sB, sC]
    refine tr 14 ⟨some 50, .call { callee := .value (.func 18), args := #[.tmp 47, .tmp 48, .tmp 49, .const (.slice none 0 0)], argTypes := #[24, 27, 29, 88] }, 4, "law.go:98", #[⟨11, .data⟩, ⟨12, .data⟩, ⟨13, .data⟩, ⟨10, .chain⟩, ⟨6, .guard⟩], some (6, false)⟩ (fun K hK => ?_)
    (go_simp; go_at_call 18; refine (CHH.out _ HC2).mono ?_; rintro e v3 ⟨rfl, HC3⟩)
    refine hK.out _ _ ?_ (fun hHeld => ?_)
    ·exact HC3
    clear hK K
    try simp only [Act.put, sA, sB, sC]
    refine tp 15 ⟨some 51, .binOp .eql 4 (.tmp 46) (.tmp 50) 4, 4, "law.go:98", #[⟨10, .data⟩, ⟨14, .data⟩, ⟨6, .guard⟩], some (6, false)⟩ ?_
    try simp only [Act.put, sA, sB, sC]
    refine tp 16 ⟨some 52, .pick (.tmp 42) (.const (.bool true)) (.tmp 51), 4, "law.go:98", #[⟨6, .data⟩, ⟨15, .data⟩, ⟨1, .guard⟩], some (1, true)⟩ ?_
    try simp only [Act.put, sA, sB, sC]
    refine tp 17 ⟨some 53, .pick (.tmp 37) (.tmp 52) (.const (.bool false)), 4, "law.go:98", #[⟨1, .data⟩, ⟨16, .data⟩], none⟩ ?_
    try simp only [Act.put, sA, sB, sC]
    refine tp 18 ⟨some 8, .assign (.tmp 53), 4, "law.go:98", #[⟨17, .data⟩, ⟨14, .chain⟩, ⟨0, .phase⟩, ⟨1, .phase⟩, ⟨2, .phase⟩, ⟨3, .phase⟩, ⟨4, .phase⟩, ⟨5, .phase⟩, ⟨6, .phase⟩, ⟨7, .phase⟩, ⟨8, .phase⟩, ⟨9, .phase⟩, ⟨10, .phase⟩, ⟨11, .phase⟩, ⟨12, .phase⟩, ⟨13, .phase⟩, ⟨14, .phase⟩, ⟨15, .phase⟩, ⟨16, .phase⟩, ⟨17, .phase⟩], none⟩ ?_
    try simp only [Act.put, sA, sB, sC]
    refine wpAnyH_done (by kernel_rfl) ?_ _
    (go_wp2; (refine bodyPost_ret (by simp [results, Tryz.results9, go_sem]; try rfl) rfl ?_; exact ⟨by first | rfl | simp, HE3.out.low.trans ((show Hid (Below W3.heap.size W3 _) by assumption).out.mono HE3.out.low.size)⟩))
  ·have hsm := lw_same HV HU HB3
   rw [decide_eq_false hsame] at hsm; obtain ⟨p1, p2, p3⟩ := sep_law sf sh; obtain ⟨q1, q2, q3⟩ := sep_law sh sf; have hso := sep_some sf sh (by rw [<- h1, <- h2]; exact hsame); have gf := sf.dg; have gh := sh.dg; rw [<- h1, <- h2] at p1 p2 p3 q1 q2 q3 hso; rw [<- h1] at gf; rw [<- h2] at gh; obtain ⟨X, hX⟩ : ∃ X, tableJ d t (notD t2) = X := ⟨_, rfl⟩; obtain ⟨Y, hY⟩ : ∃ Y, tableJ d t2 (notD t) = Y := ⟨_, rfl⟩; have EX : Hid (andX d t (notD t2) = (X, 0)) := (andX_okay p1).trans (by rw [hX]); have EY : Hid (andX d t2 (notD t) = (Y, 0)) := (andX_okay q1).trans (by rw [hY]); have H64 := Lib.hid (valid_64 gf.valid); have H64H := Lib.hid (valid_64 gh.not.valid); have H64U := Lib.hid (valid_64 gh.valid); have H64G := Lib.hid (valid_64 gf.not.valid); have hl1 : t.length <= 1000000 := by have := gf.valid.few; omega
   have hl2 : t2.length <= 1000000 := by have := gh.valid.few; omega
   rw [hX] at p2 p3 hso; rw [hY] at q2 q3 hso; have P2 := Lib.hid p2; have P3 := Lib.hid p3; have Q2 := Lib.hid q2; have Q3 := Lib.hid q3; have HSO := Lib.hid hso; clear h1 h2 sf sh HP hsame p1 p2 p3 q1 q2 q3 hX hY gf gh hso; go_upto_region 7 with (go_at_call 31; refine hsm.mono ?_; rintro e W4 ⟨rfl, HB4⟩); have HE := Lib.hid (HE3.out.step HB4.out); have HF := Lib.hid (HF3.out.step HB4.out); have HH := Lib.hid (HH3.out.step HB4.out); have HD := Lib.hid (HD3.out.step HB4.out); have HV4 := Lib.hid (HV.out.step HB4.out); have HU4 := Lib.hid (HU.out.step HB4.out); clear HE3 HF3 HH3 HD3 HC3 HV HU HB3 HB4 hsm z8 z9; rename World => W3
   rename Hid (LwS _ _) => HE3
   rename Hid (LwF W3 w.heap.size _ _ _) => HF3
   rename Hid (LwF W3 (w.heap.size + 1) _ _ _) => HH3
   rename Hid (LwD _ _ _ _ _) => HD3
   rename Hid (DgV W3 b8 _ _ _) => HV
   rename Hid (DgV W3 b9 _ _ _) => HU
   have CNU := Lib.hid (fun w' (hb : Hid (Below W3.heap.size W3 w')) => not_new hl2 HU hb)
   go_cut [13, 14] (fun s13 s14 wx => ∃ b xx kx, s13 = .pointer (some ⟨b, 0, none⟩) /\ s14 = .int .i64 0 /\ Hid (DgV wx b X xx kx) /\ Hid (Below W3.heap.size W3 wx))
   case first =>
    go_upto_region 7 with (fail); refine wp_region_held_drew (S := (fun w' : World => Hid (Below W3.heap.size W3 w'))) (by kernel_rfl) (Lib.hid (Below.refl W3.heap.size W3).drew) (fun hHeld => ?_); refine tk 0 ⟨some 55, .load 34 (.tmp 10), 34, "law.go:100", #[], none⟩ ?v7x0 ?y7x0 ?_
    case y7x0 => (intro w9 hSw; have z8 := (HV.out.box.below hSw.out).cell 0; have z9 := (HU.out.box.below hSw.out).cell 0; have y0 := (HD3.out.box.below hSw.out).cell 0; go_simp; try with_reducible rfl)
    try simp only [Act.put, sA, sB, sC]
    refine tk 1 ⟨some 56, .load 34 (.tmp 11), 34, "law.go:100", #[], none⟩ ?v7x1 ?y7x1 ?_
    case y7x1 => (intro w9 hSw; have z8 := (HV.out.box.below hSw.out).cell 0; have z9 := (HU.out.box.below hSw.out).cell 0; have y0 := (HD3.out.box.below hSw.out).cell 0; go_simp; try with_reducible rfl)
    try simp only [Act.put, sA, sB, sC]
    refine tk 3 ⟨some 58, .load 27 (.tmp 6), 27, "law.go:100", #[], none⟩ ?v7x3 ?y7x3 ?_
    case y7x3 => (intro w9 hSw; have z8 := (HV.out.box.below hSw.out).cell 0; have z9 := (HU.out.box.below hSw.out).cell 0; have y0 := (HD3.out.box.below hSw.out).cell 0; go_simp; try with_reducible rfl)
    try simp only [Act.put, sA, sB, sC]
    refine wpAnyH_ready (rs := [2, 8]) (by kernel_rfl) (by simp) ?_; refine AllReadyH.cons (o := ⟨some 57, .call { callee := .value (.func 32), args := #[.tmp 56], argTypes := #[34] }, 34, "law.go:100", #[⟨1, .data⟩], none⟩) rfl (fun K hK => ?_) (AllReadyH.cons (o := ⟨some 13, .alloc 34, 0, "law.go:100", #[], none⟩) rfl (fun K hK => ?_) AllReadyH.nil)
    ·skip
     (go_simp; go_at_call 32; refine (CNU.out _ (by assumption)).mono ?_; rintro e v1 ⟨xn, kn, rfl, HG1, hb1⟩; have HM1 := hd_then (by assumption) hb1.out; first | (have HA1 : Hid (Blk v1 W3.heap.size _ _) := hd_newd hb1.out; have HL1 : Hid (W3.heap.size <= W3.heap.size) := Nat.le_refl _) | skip; clear hb1)
     refine hK.out _ _ ?_ (fun hHeld => ?_)
     ·exact HM1
     clear hK K
     try simp only [Act.put, sA, sB, sC]
     refine wpAnyH_ready (rs := [4, 8]) (by kernel_rfl) (by simp) ?_; refine AllReadyH.cons (o := ⟨some 59, .call { callee := .value (.func 24), args := #[.tmp 55, .tmp 57, .tmp 58], argTypes := #[34, 34, 27] }, 36, "law.go:100", #[⟨0, .data⟩, ⟨2, .data⟩, ⟨3, .data⟩, ⟨2, .chain⟩], none⟩) rfl (fun K hK => ?_) (AllReadyH.cons (o := ⟨some 13, .alloc 34, 0, "law.go:100", #[], none⟩) rfl (fun K hK => ?_) AllReadyH.nil)
     ·skip
      (go_simp; go_at_call 24; refine (and_new HE3 HV HD3 H64.out H64H.out EX.out (by first | exact HG1 | exact dg_alloc HG1) (by assumption)).mono ?_; rintro e v2 ⟨xx, kx, rfl, HG2, hb2⟩; have HM2 := hd_then (by assumption) hb2.out; first | (have HA2 := Lib.hid (HA1.out.below hb2.out); have HL2 := HL1; have FLAG : (0 : Nat) = 0 := rfl) | (have HA2 : Hid (Blk v2 v1.heap.size _ _) := hd_new hb2.out; have HL2 : Hid (W3.heap.size <= v1.heap.size) := HM1.out.size; have FLAG : (0 : Nat) = 0 := rfl) | have FLAG : (1 : Nat) = 1 := rfl; clear hb2)
      refine hK.out _ _ ?_ (fun hHeld => ?_)
      ·exact HM2
      clear hK K
      try simp only [Act.put, sA, sB, sC]
      refine tp 5 ⟨some 54, .move (.tmp 59), 36, "law.go:100", #[⟨4, .data⟩], none⟩ ?_
      try simp only [Act.put, sA, sB, sC]
      refine tp 6 ⟨some 60, .extract (.tmp 54) 0, 34, "law.go:100", #[⟨5, .data⟩], none⟩ ?_
      try simp only [Act.put, sA, sB, sC]
      refine tp 7 ⟨some 61, .extract (.tmp 54) 1, 35, "law.go:100", #[⟨5, .data⟩, ⟨9, .gcOnly .lateStores⟩], none⟩ ?_
      try simp only [Act.put, sA, sB, sC]
      refine tr 8 ⟨some 13, .alloc 34, 0, "law.go:100", #[], none⟩ (fun K hK => ?_)
      go_simp
      refine hK.out _ _ ?_ (fun hHeld => ?_)
      ·exact hd_alloc (by assumption)
      clear hK K
      try simp only [Act.put, sA, sB, sC]
      refine tr 9 ⟨none, .store 34 (.tmp 13) (.tmp 60), 0, "law.go:100", #[⟨8, .data⟩, ⟨6, .data⟩, ⟨4, .chain⟩, ⟨0, .phase⟩, ⟨1, .phase⟩, ⟨2, .phase⟩, ⟨3, .phase⟩, ⟨4, .phase⟩, ⟨5, .phase⟩, ⟨6, .phase⟩, ⟨7, .textOnly .lateStores⟩, ⟨8, .phase⟩], none⟩ (fun K hK => ?_)
      (first | (have zz : (1 : Nat) = 1 := FLAG; clear zz; go_simp) | (have cz := HA2.out.cell 0; have fz := HA2.out.frozen 0; go_simp))
      refine hK.out _ _ ?_ (fun hHeld => ?_)
      ·first | exact hd_alloc HM2 | exact hd_set HM2 HL2
      clear hK K
      try simp only [Act.put, sA, sB, sC]
      refine tp 10 ⟨some 14, .assign (.tmp 61), 35, "law.go:100", #[⟨7, .data⟩, ⟨9, .chain⟩, ⟨0, .phase⟩, ⟨1, .phase⟩, ⟨2, .phase⟩, ⟨3, .phase⟩, ⟨4, .phase⟩, ⟨5, .phase⟩, ⟨6, .phase⟩, ⟨7, .phase⟩, ⟨8, .phase⟩, ⟨9, .phase⟩], none⟩ ?_
      try simp only [Act.put, sA, sB, sC]
      refine wpAnyH_done (by kernel_rfl) ?_ _
      (go_wp2; go_meet; first | exact ⟨_, _, _, rfl, rfl, dgv_new HG2, hd_alloc HM2⟩ | exact ⟨_, _, _, rfl, rfl, dgv_set HA2 HG2, hd_set HM2 HL2⟩)
     ·skip
      go_simp
      refine hK.out _ _ ?_ (fun hHeld => ?_)
      ·exact hd_alloc (by assumption)
      clear hK K
      try simp only [Act.put, sA, sB, sC]
      refine tr 4 ⟨some 59, .call { callee := .value (.func 24), args := #[.tmp 55, .tmp 57, .tmp 58], argTypes := #[34, 34, 27] }, 36, "law.go:100", #[⟨0, .data⟩, ⟨2, .data⟩, ⟨3, .data⟩, ⟨2, .chain⟩], none⟩ (fun K hK => ?_)
      (go_simp; go_at_call 24; refine (and_new HE3 HV HD3 H64.out H64H.out EX.out (by first | exact HG1 | exact dg_alloc HG1) (by assumption)).mono ?_; rintro e v2 ⟨xx, kx, rfl, HG2, hb2⟩; have HM2 := hd_then (by assumption) hb2.out; first | (have HA2 := Lib.hid (HA1.out.below hb2.out); have HL2 := HL1; have FLAG : (0 : Nat) = 0 := rfl) | (have HA2 : Hid (Blk v2 v1.heap.size _ _) := hd_new hb2.out; have HL2 : Hid (W3.heap.size <= v1.heap.size) := HM1.out.size; have FLAG : (0 : Nat) = 0 := rfl) | have FLAG : (1 : Nat) = 1 := rfl; clear hb2)
      refine hK.out _ _ ?_ (fun hHeld => ?_)
      ·exact HM2
      clear hK K
      try simp only [Act.put, sA, sB, sC]
      refine tp 5 ⟨some 54, .move (.tmp 59), 36, "law.go:100", #[⟨4, .data⟩], none⟩ ?_
      try simp only [Act.put, sA, sB, sC]
      refine tp 6 ⟨some 60, .extract (.tmp 54) 0, 34, "law.go:100", #[⟨5, .data⟩], none⟩ ?_
      try simp only [Act.put, sA, sB, sC]
      refine tp 7 ⟨some 61, .extract (.tmp 54) 1, 35, "law.go:100", #[⟨5, .data⟩, ⟨9, .gcOnly .lateStores⟩], none⟩ ?_
      try simp only [Act.put, sA, sB, sC]
      refine tr 9 ⟨none, .store 34 (.tmp 13) (.tmp 60), 0, "law.go:100", #[⟨8, .data⟩, ⟨6, .data⟩, ⟨4, .chain⟩, ⟨0, .phase⟩, ⟨1, .phase⟩, ⟨2, .phase⟩, ⟨3, .phase⟩, ⟨4, .phase⟩, ⟨5, .phase⟩, ⟨6, .phase⟩, ⟨7, .textOnly .lateStores⟩, ⟨8, .phase⟩], none⟩ (fun K hK => ?_)
      (first | (have zz : (1 : Nat) = 1 := FLAG; clear zz; go_simp) | (have cz := HA2.out.cell 0; have fz := HA2.out.frozen 0; go_simp))
      refine hK.out _ _ ?_ (fun hHeld => ?_)
      ·first | exact hd_alloc HM2 | exact hd_set HM2 HL2
      clear hK K
      try simp only [Act.put, sA, sB, sC]
      refine tp 10 ⟨some 14, .assign (.tmp 61), 35, "law.go:100", #[⟨7, .data⟩, ⟨9, .chain⟩, ⟨0, .phase⟩, ⟨1, .phase⟩, ⟨2, .phase⟩, ⟨3, .phase⟩, ⟨4, .phase⟩, ⟨5, .phase⟩, ⟨6, .phase⟩, ⟨7, .phase⟩, ⟨8, .phase⟩, ⟨9, .phase⟩], none⟩ ?_
      try simp only [Act.put, sA, sB, sC]
      refine wpAnyH_done (by kernel_rfl) ?_ _
      (go_wp2; go_meet; first | exact ⟨_, _, _, rfl, rfl, dgv_new HG2, hd_alloc HM2⟩ | exact ⟨_, _, _, rfl, rfl, dgv_set HA2 HG2, hd_set HM2 HL2⟩)
    ·skip
     go_simp
     refine hK.out _ _ ?_ (fun hHeld => ?_)
     ·exact hd_alloc (by assumption)
     clear hK K
     try simp only [Act.put, sA, sB, sC]
     refine tr 2 ⟨some 57, .call { callee := .value (.func 32), args := #[.tmp 56], argTypes := #[34] }, 34, "law.go:100", #[⟨1, .data⟩], none⟩ (fun K hK => ?_)
     (go_simp; go_at_call 32; refine (CNU.out _ (by assumption)).mono ?_; rintro e v1 ⟨xn, kn, rfl, HG1, hb1⟩; have HM1 := hd_then (by assumption) hb1.out; first | (have HA1 : Hid (Blk v1 W3.heap.size _ _) := hd_newd hb1.out; have HL1 : Hid (W3.heap.size <= W3.heap.size) := Nat.le_refl _) | skip; clear hb1)
     refine hK.out _ _ ?_ (fun hHeld => ?_)
     ·exact HM1
     clear hK K
     try simp only [Act.put, sA, sB, sC]
     refine tr 4 ⟨some 59, .call { callee := .value (.func 24), args := #[.tmp 55, .tmp 57, .tmp 58], argTypes := #[34, 34, 27] }, 36, "law.go:100", #[⟨0, .data⟩, ⟨2, .data⟩, ⟨3, .data⟩, ⟨2, .chain⟩], none⟩ (fun K hK => ?_)
     (go_simp; go_at_call 24; refine (and_new HE3 HV HD3 H64.out H64H.out EX.out (by first | exact HG1 | exact dg_alloc HG1) (by assumption)).mono ?_; rintro e v2 ⟨xx, kx, rfl, HG2, hb2⟩; have HM2 := hd_then (by assumption) hb2.out; first | (have HA2 := Lib.hid (HA1.out.below hb2.out); have HL2 := HL1; have FLAG : (0 : Nat) = 0 := rfl) | (have HA2 : Hid (Blk v2 v1.heap.size _ _) := hd_new hb2.out; have HL2 : Hid (W3.heap.size <= v1.heap.size) := HM1.out.size; have FLAG : (0 : Nat) = 0 := rfl) | have FLAG : (1 : Nat) = 1 := rfl; clear hb2)
     refine hK.out _ _ ?_ (fun hHeld => ?_)
     ·exact HM2
     clear hK K
     try simp only [Act.put, sA, sB, sC]
     refine tp 5 ⟨some 54, .move (.tmp 59), 36, "law.go:100", #[⟨4, .data⟩], none⟩ ?_
     try simp only [Act.put, sA, sB, sC]
     refine tp 6 ⟨some 60, .extract (.tmp 54) 0, 34, "law.go:100", #[⟨5, .data⟩], none⟩ ?_
     try simp only [Act.put, sA, sB, sC]
     refine tp 7 ⟨some 61, .extract (.tmp 54) 1, 35, "law.go:100", #[⟨5, .data⟩, ⟨9, .gcOnly .lateStores⟩], none⟩ ?_
     try simp only [Act.put, sA, sB, sC]
     refine tr 9 ⟨none, .store 34 (.tmp 13) (.tmp 60), 0, "law.go:100", #[⟨8, .data⟩, ⟨6, .data⟩, ⟨4, .chain⟩, ⟨0, .phase⟩, ⟨1, .phase⟩, ⟨2, .phase⟩, ⟨3, .phase⟩, ⟨4, .phase⟩, ⟨5, .phase⟩, ⟨6, .phase⟩, ⟨7, .textOnly .lateStores⟩, ⟨8, .phase⟩], none⟩ (fun K hK => ?_)
     (first | (have zz : (1 : Nat) = 1 := FLAG; clear zz; go_simp) | (have cz := HA2.out.cell 0; have fz := HA2.out.frozen 0; go_simp))
     refine hK.out _ _ ?_ (fun hHeld => ?_)
     ·first | exact hd_alloc HM2 | exact hd_set HM2 HL2
     clear hK K
     try simp only [Act.put, sA, sB, sC]
     refine tp 10 ⟨some 14, .assign (.tmp 61), 35, "law.go:100", #[⟨7, .data⟩, ⟨9, .chain⟩, ⟨0, .phase⟩, ⟨1, .phase⟩, ⟨2, .phase⟩, ⟨3, .phase⟩, ⟨4, .phase⟩, ⟨5, .phase⟩, ⟨6, .phase⟩, ⟨7, .phase⟩, ⟨8, .phase⟩, ⟨9, .phase⟩], none⟩ ?_
     try simp only [Act.put, sA, sB, sC]
     refine wpAnyH_done (by kernel_rfl) ?_ _
     (go_wp2; go_meet; first | exact ⟨_, _, _, rfl, rfl, dgv_new HG2, hd_alloc HM2⟩ | exact ⟨_, _, _, rfl, rfl, dgv_set HA2 HG2, hd_set HM2 HL2⟩)
   case rest =>
    obtain ⟨bx, xx, kx, rfl, rfl, HX, HB5⟩ := hcut; have HE5 := Lib.hid (HE3.out.step HB5.out); have HF5 := Lib.hid (HF3.out.step HB5.out); have HH5 := Lib.hid (HH3.out.step HB5.out); have HD5 := Lib.hid (HD3.out.step HB5.out); have HV5 := Lib.hid (HV.out.step HB5.out); have HU5 := Lib.hid (HU.out.step HB5.out); clear HE3 HF3 HH3 HD3 HV HU HB5 CNU; rename World => W5
    have CNV := Lib.hid (fun w' (hb : Hid (Below W5.heap.size W5 w')) => not_new hl1 HV5 hb); go_upto_region 8 with (fail)
    go_cut [15, 16] (fun s15 s16 wx => ∃ b xy ky, s15 = .pointer (some ⟨b, 0, none⟩) /\ s16 = .int .i64 0 /\ Hid (DgV wx b Y xy ky) /\ Hid (Below W5.heap.size W5 wx))
    case first =>
     go_upto_region 8 with (fail); refine wp_region_held_drew (S := (fun w' : World => Hid (Below W5.heap.size W5 w'))) (by kernel_rfl) (Lib.hid (Below.refl W5.heap.size W5).drew) (fun hHeld => ?_); refine tk 0 ⟨some 63, .load 34 (.tmp 11), 34, "law.go:101", #[], none⟩ ?v8x0 ?y8x0 ?_
     case y8x0 => (intro w9 hSw; have z8 := (HV5.out.box.below hSw.out).cell 0; have z9 := (HU5.out.box.below hSw.out).cell 0; have y0 := (HD5.out.box.below hSw.out).cell 0; go_simp; try with_reducible rfl)
     try simp only [Act.put, sA, sB, sC]
     refine tk 1 ⟨some 64, .load 34 (.tmp 10), 34, "law.go:101", #[], none⟩ ?v8x1 ?y8x1 ?_
     case y8x1 => (intro w9 hSw; have z8 := (HV5.out.box.below hSw.out).cell 0; have z9 := (HU5.out.box.below hSw.out).cell 0; have y0 := (HD5.out.box.below hSw.out).cell 0; go_simp; try with_reducible rfl)
     try simp only [Act.put, sA, sB, sC]
     refine tk 3 ⟨some 66, .load 27 (.tmp 6), 27, "law.go:101", #[], none⟩ ?v8x3 ?y8x3 ?_
     case y8x3 => (intro w9 hSw; have z8 := (HV5.out.box.below hSw.out).cell 0; have z9 := (HU5.out.box.below hSw.out).cell 0; have y0 := (HD5.out.box.below hSw.out).cell 0; go_simp; try with_reducible rfl)
     try simp only [Act.put, sA, sB, sC]
     refine wpAnyH_ready (rs := [2, 8]) (by kernel_rfl) (by simp) ?_; refine AllReadyH.cons (o := ⟨some 65, .call { callee := .value (.func 32), args := #[.tmp 64], argTypes := #[34] }, 34, "law.go:101", #[⟨1, .data⟩], none⟩) rfl (fun K hK => ?_) (AllReadyH.cons (o := ⟨some 15, .alloc 34, 0, "law.go:101", #[], none⟩) rfl (fun K hK => ?_) AllReadyH.nil)
     ·skip
      (go_simp; go_at_call 32; refine (CNV.out _ (by assumption)).mono ?_; rintro e v1 ⟨xn, kn, rfl, HG1, hb1⟩; have HM1 := hd_then (by assumption) hb1.out; first | (have HA1 : Hid (Blk v1 W5.heap.size _ _) := hd_newd hb1.out; have HL1 : Hid (W5.heap.size <= W5.heap.size) := Nat.le_refl _) | skip; clear hb1)
      refine hK.out _ _ ?_ (fun hHeld => ?_)
      ·exact HM1
      clear hK K
      try simp only [Act.put, sA, sB, sC]
      refine wpAnyH_ready (rs := [4, 8]) (by kernel_rfl) (by simp) ?_; refine AllReadyH.cons (o := ⟨some 67, .call { callee := .value (.func 24), args := #[.tmp 63, .tmp 65, .tmp 66], argTypes := #[34, 34, 27] }, 36, "law.go:101", #[⟨0, .data⟩, ⟨2, .data⟩, ⟨3, .data⟩, ⟨2, .chain⟩], none⟩) rfl (fun K hK => ?_) (AllReadyH.cons (o := ⟨some 15, .alloc 34, 0, "law.go:101", #[], none⟩) rfl (fun K hK => ?_) AllReadyH.nil)
      ·skip
       (go_simp; go_at_call 24; refine (and_new HE5 HU5 HD5 H64U.out H64G.out EY.out (by first | exact HG1 | exact dg_alloc HG1) (by assumption)).mono ?_; rintro e v2 ⟨xx, kx, rfl, HG2, hb2⟩; have HM2 := hd_then (by assumption) hb2.out; first | (have HA2 := Lib.hid (HA1.out.below hb2.out); have HL2 := HL1; have FLAG : (0 : Nat) = 0 := rfl) | (have HA2 : Hid (Blk v2 v1.heap.size _ _) := hd_new hb2.out; have HL2 : Hid (W5.heap.size <= v1.heap.size) := HM1.out.size; have FLAG : (0 : Nat) = 0 := rfl) | have FLAG : (1 : Nat) = 1 := rfl; clear hb2)
       refine hK.out _ _ ?_ (fun hHeld => ?_)
       ·exact HM2
       clear hK K
       try simp only [Act.put, sA, sB, sC]
       refine tp 5 ⟨some 62, .move (.tmp 67), 36, "law.go:101", #[⟨4, .data⟩], none⟩ ?_
       try simp only [Act.put, sA, sB, sC]
       refine tp 6 ⟨some 68, .extract (.tmp 62) 0, 34, "law.go:101", #[⟨5, .data⟩], none⟩ ?_
       try simp only [Act.put, sA, sB, sC]
       refine tp 7 ⟨some 69, .extract (.tmp 62) 1, 35, "law.go:101", #[⟨5, .data⟩, ⟨9, .gcOnly .lateStores⟩], none⟩ ?_
       try simp only [Act.put, sA, sB, sC]
       refine tr 8 ⟨some 15, .alloc 34, 0, "law.go:101", #[], none⟩ (fun K hK => ?_)
       go_simp
       refine hK.out _ _ ?_ (fun hHeld => ?_)
       ·exact hd_alloc (by assumption)
       clear hK K
       try simp only [Act.put, sA, sB, sC]
       refine tr 9 ⟨none, .store 34 (.tmp 15) (.tmp 68), 0, "law.go:101", #[⟨8, .data⟩, ⟨6, .data⟩, ⟨4, .chain⟩, ⟨0, .phase⟩, ⟨1, .phase⟩, ⟨2, .phase⟩, ⟨3, .phase⟩, ⟨4, .phase⟩, ⟨5, .phase⟩, ⟨6, .phase⟩, ⟨7, .textOnly .lateStores⟩, ⟨8, .phase⟩], none⟩ (fun K hK => ?_)
       (first | (have zz : (1 : Nat) = 1 := FLAG; clear zz; go_simp) | (have cz := HA2.out.cell 0; have fz := HA2.out.frozen 0; go_simp))
       refine hK.out _ _ ?_ (fun hHeld => ?_)
       ·first | exact hd_alloc HM2 | exact hd_set HM2 HL2
       clear hK K
       try simp only [Act.put, sA, sB, sC]
       refine tp 10 ⟨some 16, .assign (.tmp 69), 35, "law.go:101", #[⟨7, .data⟩, ⟨9, .chain⟩, ⟨0, .phase⟩, ⟨1, .phase⟩, ⟨2, .phase⟩, ⟨3, .phase⟩, ⟨4, .phase⟩, ⟨5, .phase⟩, ⟨6, .phase⟩, ⟨7, .phase⟩, ⟨8, .phase⟩, ⟨9, .phase⟩], none⟩ ?_
       try simp only [Act.put, sA, sB, sC]
       refine wpAnyH_done (by kernel_rfl) ?_ _
       (go_wp2; go_meet; first | exact ⟨_, _, _, rfl, rfl, dgv_new HG2, hd_alloc HM2⟩ | exact ⟨_, _, _, rfl, rfl, dgv_set HA2 HG2, hd_set HM2 HL2⟩)
      ·skip
       go_simp
       refine hK.out _ _ ?_ (fun hHeld => ?_)
       ·exact hd_alloc (by assumption)
       clear hK K
       try simp only [Act.put, sA, sB, sC]
       refine tr 4 ⟨some 67, .call { callee := .value (.func 24), args := #[.tmp 63, .tmp 65, .tmp 66], argTypes := #[34, 34, 27] }, 36, "law.go:101", #[⟨0, .data⟩, ⟨2, .data⟩, ⟨3, .data⟩, ⟨2, .chain⟩], none⟩ (fun K hK => ?_)
       (go_simp; go_at_call 24; refine (and_new HE5 HU5 HD5 H64U.out H64G.out EY.out (by first | exact HG1 | exact dg_alloc HG1) (by assumption)).mono ?_; rintro e v2 ⟨xx, kx, rfl, HG2, hb2⟩; have HM2 := hd_then (by assumption) hb2.out; first | (have HA2 := Lib.hid (HA1.out.below hb2.out); have HL2 := HL1; have FLAG : (0 : Nat) = 0 := rfl) | (have HA2 : Hid (Blk v2 v1.heap.size _ _) := hd_new hb2.out; have HL2 : Hid (W5.heap.size <= v1.heap.size) := HM1.out.size; have FLAG : (0 : Nat) = 0 := rfl) | have FLAG : (1 : Nat) = 1 := rfl; clear hb2)
       refine hK.out _ _ ?_ (fun hHeld => ?_)
       ·exact HM2
       clear hK K
       try simp only [Act.put, sA, sB, sC]
       refine tp 5 ⟨some 62, .move (.tmp 67), 36, "law.go:101", #[⟨4, .data⟩], none⟩ ?_
       try simp only [Act.put, sA, sB, sC]
       refine tp 6 ⟨some 68, .extract (.tmp 62) 0, 34, "law.go:101", #[⟨5, .data⟩], none⟩ ?_
       try simp only [Act.put, sA, sB, sC]
       refine tp 7 ⟨some 69, .extract (.tmp 62) 1, 35, "law.go:101", #[⟨5, .data⟩, ⟨9, .gcOnly .lateStores⟩], none⟩ ?_
       try simp only [Act.put, sA, sB, sC]
       refine tr 9 ⟨none, .store 34 (.tmp 15) (.tmp 68), 0, "law.go:101", #[⟨8, .data⟩, ⟨6, .data⟩, ⟨4, .chain⟩, ⟨0, .phase⟩, ⟨1, .phase⟩, ⟨2, .phase⟩, ⟨3, .phase⟩, ⟨4, .phase⟩, ⟨5, .phase⟩, ⟨6, .phase⟩, ⟨7, .textOnly .lateStores⟩, ⟨8, .phase⟩], none⟩ (fun K hK => ?_)
       (first | (have zz : (1 : Nat) = 1 := FLAG; clear zz; go_simp) | (have cz := HA2.out.cell 0; have fz := HA2.out.frozen 0; go_simp))
       refine hK.out _ _ ?_ (fun hHeld => ?_)
       ·first | exact hd_alloc HM2 | exact hd_set HM2 HL2
       clear hK K
       try simp only [Act.put, sA, sB, sC]
       refine tp 10 ⟨some 16, .assign (.tmp 69), 35, "law.go:101", #[⟨7, .data⟩, ⟨9, .chain⟩, ⟨0, .phase⟩, ⟨1, .phase⟩, ⟨2, .phase⟩, ⟨3, .phase⟩, ⟨4, .phase⟩, ⟨5, .phase⟩, ⟨6, .phase⟩, ⟨7, .phase⟩, ⟨8, .phase⟩, ⟨9, .phase⟩], none⟩ ?_
       try simp only [Act.put, sA, sB, sC]
       refine wpAnyH_done (by kernel_rfl) ?_ _
       (go_wp2; go_meet; first | exact ⟨_, _, _, rfl, rfl, dgv_new HG2, hd_alloc HM2⟩ | exact ⟨_, _, _, rfl, rfl, dgv_set HA2 HG2, hd_set HM2 HL2⟩)
     ·skip
      go_simp
      refine hK.out _ _ ?_ (fun hHeld => ?_)
      ·exact hd_alloc (by assumption)
      clear hK K
      try simp only [Act.put, sA, sB, sC]
      refine tr 2 ⟨some 65, .call { callee := .value (.func 32), args := #[.tmp 64], argTypes := #[34] }, 34, "law.go:101", #[⟨1, .data⟩], none⟩ (fun K hK => ?_)
      (go_simp; go_at_call 32; refine (CNV.out _ (by assumption)).mono ?_; rintro e v1 ⟨xn, kn, rfl, HG1, hb1⟩; have HM1 := hd_then (by assumption) hb1.out; first | (have HA1 : Hid (Blk v1 W5.heap.size _ _) := hd_newd hb1.out; have HL1 : Hid (W5.heap.size <= W5.heap.size) := Nat.le_refl _) | skip; clear hb1)
      refine hK.out _ _ ?_ (fun hHeld => ?_)
      ·exact HM1
      clear hK K
      try simp only [Act.put, sA, sB, sC]
      refine tr 4 ⟨some 67, .call { callee := .value (.func 24), args := #[.tmp 63, .tmp 65, .tmp 66], argTypes := #[34, 34, 27] }, 36, "law.go:101", #[⟨0, .data⟩, ⟨2, .data⟩, ⟨3, .data⟩, ⟨2, .chain⟩], none⟩ (fun K hK => ?_)
      (go_simp; go_at_call 24; refine (and_new HE5 HU5 HD5 H64U.out H64G.out EY.out (by first | exact HG1 | exact dg_alloc HG1) (by assumption)).mono ?_; rintro e v2 ⟨xx, kx, rfl, HG2, hb2⟩; have HM2 := hd_then (by assumption) hb2.out; first | (have HA2 := Lib.hid (HA1.out.below hb2.out); have HL2 := HL1; have FLAG : (0 : Nat) = 0 := rfl) | (have HA2 : Hid (Blk v2 v1.heap.size _ _) := hd_new hb2.out; have HL2 : Hid (W5.heap.size <= v1.heap.size) := HM1.out.size; have FLAG : (0 : Nat) = 0 := rfl) | have FLAG : (1 : Nat) = 1 := rfl; clear hb2)
      refine hK.out _ _ ?_ (fun hHeld => ?_)
      ·exact HM2
      clear hK K
      try simp only [Act.put, sA, sB, sC]
      refine tp 5 ⟨some 62, .move (.tmp 67), 36, "law.go:101", #[⟨4, .data⟩], none⟩ ?_
      try simp only [Act.put, sA, sB, sC]
      refine tp 6 ⟨some 68, .extract (.tmp 62) 0, 34, "law.go:101", #[⟨5, .data⟩], none⟩ ?_
      try simp only [Act.put, sA, sB, sC]
      refine tp 7 ⟨some 69, .extract (.tmp 62) 1, 35, "law.go:101", #[⟨5, .data⟩, ⟨9, .gcOnly .lateStores⟩], none⟩ ?_
      try simp only [Act.put, sA, sB, sC]
      refine tr 9 ⟨none, .store 34 (.tmp 15) (.tmp 68), 0, "law.go:101", #[⟨8, .data⟩, ⟨6, .data⟩, ⟨4, .chain⟩, ⟨0, .phase⟩, ⟨1, .phase⟩, ⟨2, .phase⟩, ⟨3, .phase⟩, ⟨4, .phase⟩, ⟨5, .phase⟩, ⟨6, .phase⟩, ⟨7, .textOnly .lateStores⟩, ⟨8, .phase⟩], none⟩ (fun K hK => ?_)
      (first | (have zz : (1 : Nat) = 1 := FLAG; clear zz; go_simp) | (have cz := HA2.out.cell 0; have fz := HA2.out.frozen 0; go_simp))
      refine hK.out _ _ ?_ (fun hHeld => ?_)
      ·first | exact hd_alloc HM2 | exact hd_set HM2 HL2
      clear hK K
      try simp only [Act.put, sA, sB, sC]
      refine tp 10 ⟨some 16, .assign (.tmp 69), 35, "law.go:101", #[⟨7, .data⟩, ⟨9, .chain⟩, ⟨0, .phase⟩, ⟨1, .phase⟩, ⟨2, .phase⟩, ⟨3, .phase⟩, ⟨4, .phase⟩, ⟨5, .phase⟩, ⟨6, .phase⟩, ⟨7, .phase⟩, ⟨8, .phase⟩, ⟨9, .phase⟩], none⟩ ?_
      try simp only [Act.put, sA, sB, sC]
      refine wpAnyH_done (by kernel_rfl) ?_ _
      (go_wp2; go_meet; first | exact ⟨_, _, _, rfl, rfl, dgv_new HG2, hd_alloc HM2⟩ | exact ⟨_, _, _, rfl, rfl, dgv_set HA2 HG2, hd_set HM2 HL2⟩)
    case rest =>
     obtain ⟨bz, xy, ky, rfl, rfl, HY, HB6⟩ := hcut; have HE6 := Lib.hid (HE5.out.step HB6.out); have HF6 := Lib.hid (HF5.out.step HB6.out); have HH6 := Lib.hid (HH5.out.step HB6.out); have HD6 := Lib.hid (HD5.out.step HB6.out); have HX6 := Lib.hid (HX.out.step HB6.out); clear HE5 HF5 HH5 HD5 HV5 HU5 HX HB6 CNV; have HB6 : Hid (Below wc.heap.size wc wc) := Below.refl _ _; have CLX := lw_least HE6 HX6 HD6 P2.out HB6; obtain ⟨lx, hlx⟩ : ∃ lx, leastG d X = lx := ⟨_, rfl⟩; obtain ⟨ly, hly⟩ : ∃ ly, leastG d Y = ly := ⟨_, rfl⟩; have hp3 := P3.out; have hq3 := Q3.out; have hso := HSO.out; rw [hlx] at CLX hp3 hso; rw [hly] at hq3 hso; have HLY := Lib.hid hly; have HP3 := Lib.hid hp3; have HQ3 := Lib.hid hq3; have HSO2 := Lib.hid hso; clear P3 Q3 HSO hp3 hq3 hso hlx hly; have z10 := HX6.out.box.cell 0; have y0 := HD6.out.box.cell 0; go_upto_region 12 with (go_at_call 20; refine CLX.mono ?_; rintro e w7 ⟨xp, kp, rfl, HCP, HB7⟩); have HE7 := Lib.hid (HE6.out.step HB7.out); have HF7 := Lib.hid (HF6.out.step HB7.out); have HH7 := Lib.hid (HH6.out.step HB7.out); have HD7 := Lib.hid (HD6.out.step HB7.out); have HY7 := Lib.hid (HY.out.step HB7.out); clear HE6 HF6 HH6 HD6 HX6 HY HB6 HB7 CLX z10 y0; have HB7 : Hid (Below w7.heap.size w7 w7) := Below.refl _ _; have CLY := lw_least HE7 HY7 HD7 Q2.out HB7; rw [HLY.out] at CLY; have z11 := HY7.out.box.cell 0; have y0 := HD7.out.box.cell 0; go_upto_region 13 with (go_at_call 20; refine CLY.mono ?_; rintro e w8 ⟨xq, kq, rfl, HCQ, HB8⟩); have HE3 := Lib.hid (HE7.out.step HB8.out); have HF := Lib.hid (HF7.out.step HB8.out); have HH := Lib.hid (HH7.out.step HB8.out); have HD := Lib.hid (HD7.out.step HB8.out); have HCP8 := Lib.hid (lwc_step HCP.out HB8.out); clear HE7 HF7 HH7 HD7 HY7 HB7 HB8 CLY z11 y0 HCP HLY; rename World => W3
     have HCL : Hid (∀ w', Hid (Below W3.heap.size W3 w') -> (w'.cell? ⟨w.heap.size, 0, none⟩ = some (.int .i64 f.op) /\ w'.cell? ⟨w.heap.size, 1, none⟩ = some (.string f.name) /\ w'.cell? ⟨w.heap.size, 2, none⟩ = some (.int .i64 f.cmp) /\ w'.cell? ⟨w.heap.size, 3, none⟩ = some (.int .i64 f.n) /\ w'.cell? ⟨w.heap.size, 4, none⟩ = some (.slice a f.kids.length k) /\ w'.cell? ⟨w.heap.size + 1, 0, none⟩ = some (.int .i64 h.op) /\ w'.cell? ⟨w.heap.size + 1, 1, none⟩ = some (.string h.name) /\ w'.cell? ⟨w.heap.size + 1, 2, none⟩ = some (.int .i64 h.cmp) /\ w'.cell? ⟨w.heap.size + 1, 3, none⟩ = some (.int .i64 h.n) /\ w'.cell? ⟨w.heap.size + 1, 4, none⟩ = some (.slice ah h.kids.length kh) /\ w'.cell? ⟨w.heap.size + 1 + 1, 0, none⟩ = some (.slice a' d.length k'))) := fun w' hb =>
      have p := HF.out.box.below hb.out; have q := HH.out.box.below hb.out
      ⟨p.cell 0, p.cell 1, p.cell 2, p.cell 3, p.cell 4, q.cell 0, q.cell 1, q.cell 2, q.cell 3, q.cell 4, (HD.out.box.below hb.out).cell 0⟩
     have HB3 : Hid (Below W3.heap.size W3 W3) := Below.refl _ _; obtain ⟨x0, x1, x2, x3, x4, u0, u1, u2, u3, u4, y0⟩ := HCL.out _ HB3; have CFP := Lib.hid (fun w' (hb : Hid (Below W3.heap.size W3 w')) => lw_fits HD HCP8 hb); have CPF := Lib.hid (fun w' (hb : Hid (Below W3.heap.size W3 w')) => lw_fholds HF HD HCP8 hfs hb); have CPH := Lib.hid (fun w' (hb : Hid (Below W3.heap.size W3 w')) => lw_fholds HH HD HCP8 hhs hb); have CFQ := Lib.hid (fun w' (hb : Hid (Below W3.heap.size W3 w')) => lw_fits HD HCQ hb); have CQF := Lib.hid (fun w' (hb : Hid (Below W3.heap.size W3 w')) => lw_fholds HF HD HCQ hfs hb); have CQH := Lib.hid (fun w' (hb : Hid (Below W3.heap.size W3 w')) => lw_fholds HH HD HCQ hhs hb); cases lx with
     | none =>
      cases ly with
      | none => exact absurd HSO2.out (by simp)
      | some q =>
       obtain ⟨q1, q2, q3⟩ := HQ3.out q rfl; simp only [Option.getD_some] at CFQ CQF CQH; rw [q1] at CFQ; rw [q2] at CQH; rw [q3] at CQF; clear HQ3 HP3 HSO2 q1 q2 q3 CFP CPF CPH HCP8 HCQ; go_wp2_with (first | (go_at_call_of 16 xq; refine (CFQ.out _ HB3).mono ?_; rintro e v1 ⟨rfl, HC1⟩; (clear x0 x1 x2 x3 x4 u0 u1 u2 u3 u4 y0; obtain ⟨x0, x1, x2, x3, x4, u0, u1, u2, u3, u4, y0⟩ := HCL.out _ (by assumption))) | (go_at_call_of 18 ah; refine (CQH.out _ HC1).mono ?_; rintro e v2 ⟨rfl, HC2⟩; (clear x0 x1 x2 x3 x4 u0 u1 u2 u3 u4 y0; obtain ⟨x0, x1, x2, x3, x4, u0, u1, u2, u3, u4, y0⟩ := HCL.out _ (by assumption))) | (go_at_call_of 18 a; refine (CQF.out _ HC2).mono ?_; rintro e v3 ⟨rfl, HC3⟩; (clear x0 x1 x2 x3 x4 u0 u1 u2 u3 u4 y0; obtain ⟨x0, x1, x2, x3, x4, u0, u1, u2, u3, u4, y0⟩ := HCL.out _ (by assumption))))
       (refine bodyPost_ret (by simp [results, Tryz.results9, go_sem]; try rfl) rfl ?_; exact ⟨by first | rfl | simp, HE3.out.low.trans ((show Hid (Below W3.heap.size W3 _) by assumption).out.mono HE3.out.low.size)⟩)
     | some p =>
      obtain ⟨p1, p2, p3⟩ := HP3.out p rfl; simp only [Option.getD_some] at CFP CPF CPH; rw [p1] at CFP; rw [p2] at CPF; rw [p3] at CPH; cases ly with
      | none =>
       clear HQ3 HP3 HSO2 p1 p2 p3 CFQ CQF CQH HCP8 HCQ; go_wp2_with (first | (go_at_call_of 16 xp; refine (CFP.out _ HB3).mono ?_; rintro e v1 ⟨rfl, HC1⟩; (clear x0 x1 x2 x3 x4 u0 u1 u2 u3 u4 y0; obtain ⟨x0, x1, x2, x3, x4, u0, u1, u2, u3, u4, y0⟩ := HCL.out _ (by assumption))) | (go_at_call_of 18 ah; refine (CPH.out _ HC2).mono ?_; rintro e v3 ⟨rfl, HC3⟩; (clear x0 x1 x2 x3 x4 u0 u1 u2 u3 u4 y0; obtain ⟨x0, x1, x2, x3, x4, u0, u1, u2, u3, u4, y0⟩ := HCL.out _ (by assumption))) | (go_at_call_of 18 a; refine (CPF.out _ HC1).mono ?_; rintro e v2 ⟨rfl, HC2⟩; (clear x0 x1 x2 x3 x4 u0 u1 u2 u3 u4 y0; obtain ⟨x0, x1, x2, x3, x4, u0, u1, u2, u3, u4, y0⟩ := HCL.out _ (by assumption))))
       (refine bodyPost_ret (by simp [results, Tryz.results9, go_sem]; try rfl) rfl ?_; exact ⟨by first | rfl | simp, HE3.out.low.trans ((show Hid (Below W3.heap.size W3 _) by assumption).out.mono HE3.out.low.size)⟩)
      | some q =>
       obtain ⟨q1, q2, q3⟩ := HQ3.out q rfl; simp only [Option.getD_some] at CFQ CQF CQH; rw [q1] at CFQ; rw [q2] at CQH; rw [q3] at CQF; clear HQ3 HP3 HSO2 p1 p2 p3 q1 q2 q3 HCP8 HCQ; go_upto_region 15 with (first | (go_at_call_of 16 xp; refine (CFP.out _ HB3).mono ?_; rintro e v1 ⟨rfl, HC1⟩; (clear x0 x1 x2 x3 x4 u0 u1 u2 u3 u4 y0; obtain ⟨x0, x1, x2, x3, x4, u0, u1, u2, u3, u4, y0⟩ := HCL.out _ (by assumption))) | (go_at_call_of 18 ah; refine (CPH.out _ HC2).mono ?_; rintro e v3 ⟨rfl, HC3⟩; (clear x0 x1 x2 x3 x4 u0 u1 u2 u3 u4 y0; obtain ⟨x0, x1, x2, x3, x4, u0, u1, u2, u3, u4, y0⟩ := HCL.out _ (by assumption))) | (go_at_call_of 18 a; refine (CPF.out _ HC1).mono ?_; rintro e v2 ⟨rfl, HC2⟩; (clear x0 x1 x2 x3 x4 u0 u1 u2 u3 u4 y0; obtain ⟨x0, x1, x2, x3, x4, u0, u1, u2, u3, u4, y0⟩ := HCL.out _ (by assumption)))); clear CFP CPF CPH; go_wp2_with (first | (go_at_call_of 16 xq; refine (CFQ.out _ HC3).mono ?_; rintro e v4 ⟨rfl, HC4⟩; (clear x0 x1 x2 x3 x4 u0 u1 u2 u3 u4 y0; obtain ⟨x0, x1, x2, x3, x4, u0, u1, u2, u3, u4, y0⟩ := HCL.out _ (by assumption))) | (go_at_call_of 18 ah; refine (CQH.out _ HC4).mono ?_; rintro e v5 ⟨rfl, HC5⟩; (clear x0 x1 x2 x3 x4 u0 u1 u2 u3 u4 y0; obtain ⟨x0, x1, x2, x3, x4, u0, u1, u2, u3, u4, y0⟩ := HCL.out _ (by assumption))) | (go_at_call_of 18 a; refine (CQF.out _ HC5).mono ?_; rintro e v6 ⟨rfl, HC6⟩; (clear x0 x1 x2 x3 x4 u0 u1 u2 u3 u4 y0; obtain ⟨x0, x1, x2, x3, x4, u0, u1, u2, u3, u4, y0⟩ := HCL.out _ (by assumption))))
       (refine bodyPost_ret (by simp [results, Tryz.results9, go_sem]; try rfl) rfl ?_; exact ⟨by first | rfl | simp, HE3.out.low.trans ((show Hid (Below W3.heap.size W3 _) by assumption).out.mono HE3.out.low.size)⟩)
end Go.Proofs.YtejbgoigkefnfaaGreatDoor
