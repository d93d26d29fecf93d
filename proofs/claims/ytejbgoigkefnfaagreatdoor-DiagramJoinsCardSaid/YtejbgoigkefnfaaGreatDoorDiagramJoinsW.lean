/- The walk of DiagramJoins. No conditions. -/
import Derived.Test.YtejbgoigkefnfaaGreatDoorDgAW
import Derived.Test.YtejbgoigkefnfaaGreatDoorDgNt
import Derived.Test.YtejbgoigkefnfaaGreatDoorDgSF
namespace Go.Proofs.YtejbgoigkefnfaaGreatDoor
open Go.RowKit
set_option maxRecDepth 100000 in
set_option maxHeartbeats 4000000 in
theorem diagramJoins_any {f h : Fo} {d : List Fa} {c : List Int} {v vh u cv : Value} (w : World) (hf : f.In w w.heap.size v) (hh : h.In w w.heap.size vh) (hd : DomIn w w.heap.size d u) (hc : IntsIn w w.heap.size c cv) (hT : TabH w.heap.size w) :
  Calls Tryz.prog 8 #[v, vh, u, cv] w fun e w' => e = .returned (.bool true) /\ Below w.heap.size w w' := by
 obtain ⟨a, k, rfl⟩ := hf.shape; obtain ⟨ah, kh, rfl⟩ := hh.shape; have hd1 := hd; obtain ⟨du, rfl, hdu⟩ := hd; obtain ⟨a', k', rfl, _⟩ := SlIn.shape hdu; obtain ⟨HE, HF, HH, HD, HB0⟩ := lw_start2 hf hh hd1 hT; have HC : Hid (LwC (((w.alloc (.cells #[.int .i64 f.op, .string f.name, .int .i64 f.cmp, .int .i64 f.n, .slice a f.kids.length k] 24)).alloc (.cells #[.int .i64 h.op, .string h.name, .int .i64 h.cmp, .int .i64 h.n, .slice ah h.kids.length kh] 24)).alloc (.cells #[.slice a' d.length k'] 27)) c cv) := lwc_step hc HB0.out; clear hf hh hd1 hdu hc hT HB0; obtain ⟨W, hW⟩ : ∃ W, (((w.alloc (.cells #[.int .i64 f.op, .string f.name, .int .i64 f.cmp, .int .i64 f.n, .slice a f.kids.length k] 24)).alloc (.cells #[.int .i64 h.op, .string h.name, .int .i64 h.cmp, .int .i64 h.n, .slice ah h.kids.length kh] 24)).alloc (.cells #[.slice a' d.length k'] 27)) = W := ⟨_, rfl⟩; rw [hW] at HE HF HH HD HC; have HW := Lib.hid hW; clear hW; have HB0 : Hid (Below W.heap.size W W) := Below.refl _ _; go_enter Tryz.func8, Tryz.ntmps8; go_upto_region 1 with (fail); rw [HW.out]; go_upto_region 2 with (go_at_call 10; refine (lw_head HE HB0).mono ?_; rintro e w1 ⟨rfl, HB1⟩); have x0 := (HF.out.box.below HB1.out).cell 0; have x1 := (HF.out.box.below HB1.out).cell 1; have x2 := (HF.out.box.below HB1.out).cell 2; have x3 := (HF.out.box.below HB1.out).cell 3; have x4 := (HF.out.box.below HB1.out).cell 4; have u0 := (HH.out.box.below HB1.out).cell 0; have u1 := (HH.out.box.below HB1.out).cell 1; have u2 := (HH.out.box.below HB1.out).cell 2; have u3 := (HH.out.box.below HB1.out).cell 3; have u4 := (HH.out.box.below HB1.out).cell 4; have y0 := (HD.out.box.below HB1.out).cell 0; go_upto_region 3 with (go_at_call 19; refine (lw_pair HE HF HH HD HB1).mono ?_; rintro e w2 ⟨t, t2, a1, a2, c1, c2, rfl, HG, HG2, hp, HB2⟩); obtain ⟨HV, HU⟩ := dgv_pair HG HG2; have HB3 : Hid (Below W.heap.size W ((w2.alloc (.cells #[.slice a1 t.length c1] 34)).alloc (.cells #[.slice a2 t2.length c2] 34))) := hd_alloc (hd_alloc HB2); have HE3 := Lib.hid (HE.out.step HB3.out); have HF3 := Lib.hid (HF.out.step HB3.out); have HH3 := Lib.hid (HH.out.step HB3.out); have HD3 := Lib.hid (HD.out.step HB3.out); have HC3 := Lib.hid (lwc_step HC.out HB3.out); have HP := Lib.hid hp; clear HE HF HH HD HC HB0 HB1 HB2 HB3 HG HG2 hp HW x0 x1 x2 x3 x4 u0 u1 u2 u3 u4 y0; generalize ((w2.alloc (.cells #[.slice a1 t.length c1] 34)).alloc (.cells #[.slice a2 t2.length c2] 34)) = W3 at *
 generalize w2.heap.size + 1 = b9 at *
 generalize w2.heap.size = b8 at *
 have HB3 : Hid (Below W3.heap.size W3 W3) := Below.refl _ _; have z8 := HV.out.box.cell 0; have z9 := HU.out.box.cell 0; have y0 := HD3.out.box.cell 0; cases hok : pairB f h d with
 | false =>
  go_wp2
  (refine bodyPost_ret (by simp [results, Tryz.results8, go_sem]; try rfl) rfl ?_; exact ⟨by first | rfl | simp, HE3.out.low.trans ((show Hid (Below W3.heap.size W3 _) by assumption).out.mono HE3.out.low.size)⟩)
 | true =>
  obtain ⟨h1, h2⟩ := HP.out hok; obtain ⟨sf, sh⟩ := pair_small hok; have hL := join_names sf sh; have hsm := (join_law sf sh).same; rw [<- h1, <- h2] at hL hsm; have gf := sf.dg; have gh := sh.dg; rw [<- h1] at gf; rw [<- h2] at gh; have H64 := Lib.hid (valid_64 gf.valid); have H64H := Lib.hid (valid_64 gh.valid); have htl : t.length <= 1000000 := by have := gf.valid.few; omega
  obtain ⟨X, hX⟩ : ∃ X, tableJ d t t2 = X := ⟨_, rfl⟩; have EX : Hid (andX d t t2 = (X, 0)) := (andX_okay (gf.andB gh)).trans (by rw [hX]); have EY : Hid (andX d t2 t = (X, 0)) := (andX_okay (gh.andB gf)).trans (by rw [<- hsm, hX])
  have hbs : (bothF f h).size <= 1000000 := by
   have q1 := (check_nodes sf.check).1; have q2 := (check_nodes sh.check).1; unfold bothF; rw [Fo.size]; simp [Fo.sizeL]; omega
  rw [hX] at hL; have HJ := Lib.hid hL; clear h1 h2 hL gf gh sf sh HP hX hsm; go_upto_region 6 with (go_at_call 24; refine (lw_both HE3 HV HU HD3 H64.out H64H.out EX.out HB3).mono ?_; rintro e w4 ⟨xx, kx, rfl, HGX, HB4⟩); have HX := dgv_new HGX; have HB5 : Hid (Below W3.heap.size W3 (w4.alloc (.cells #[.slice xx X.length kx] 34))) := hd_alloc HB4; have HE5 := Lib.hid (HE3.out.step HB5.out); have HF5 := Lib.hid (HF3.out.step HB5.out); have HH5 := Lib.hid (HH3.out.step HB5.out); have HD5 := Lib.hid (HD3.out.step HB5.out); have HC5 := Lib.hid (lwc_step HC3.out HB5.out); have HV5 := Lib.hid (HV.out.step HB5.out); have HU5 := Lib.hid (HU.out.step HB5.out); clear HE3 HF3 HH3 HD3 HC3 HV HU HB3 HB4 HB5 HGX z8 z9 y0; generalize w4.alloc (.cells #[.slice xx X.length kx] 34) = W5 at *
  generalize w4.heap.size = b10 at *
  have HB5 : Hid (Below W5.heap.size W5 W5) := Below.refl _ _; have z8 := HV5.out.box.cell 0; have z9 := HU5.out.box.cell 0; have y0 := HD5.out.box.cell 0; go_upto_region 7 with (go_at_call 24; refine (lw_both HE5 HU5 HV5 HD5 H64H.out H64.out EY.out HB5).mono ?_; rintro e w6 ⟨xy, ky, rfl, HGY, HB6⟩); have HY := dgv_new HGY; have HB7 : Hid (Below W5.heap.size W5 (w6.alloc (.cells #[.slice xy X.length ky] 34))) := hd_alloc HB6; have HE7 := Lib.hid (HE5.out.step HB7.out); have HF7 := Lib.hid (HF5.out.step HB7.out); have HH7 := Lib.hid (HH5.out.step HB7.out); have HD7 := Lib.hid (HD5.out.step HB7.out); have HC7 := Lib.hid (lwc_step HC5.out HB7.out); have HV7 := Lib.hid (HV5.out.step HB7.out); have HU7 := Lib.hid (HU5.out.step HB7.out); have HX7 := Lib.hid (HX.out.step HB7.out); clear HE5 HF5 HH5 HD5 HC5 HV5 HU5 HX HB5 HB6 HB7 HGY z8 z9 y0; generalize w6.alloc (.cells #[.slice xy X.length ky] 34) = W7 at *
  generalize w6.heap.size = b11 at *
  have HB7 : Hid (Below W7.heap.size W7 W7) := Below.refl _ _; have z8 := HV7.out.box.cell 0; go_upto_region 8 with (go_at_call 32; refine (lw_not htl HV7 HB7).mono ?_; rintro e w8 ⟨xn, kn, rfl, HGN, HB8⟩); have HN := dgv_new HGN; have HB9 : Hid (Below W7.heap.size W7 (w8.alloc (.cells #[.slice xn (notD t).length kn] 34))) := hd_alloc HB8; have HE9 := Lib.hid (HE7.out.step HB9.out); have HF9 := Lib.hid (HF7.out.step HB9.out); have HH9 := Lib.hid (HH7.out.step HB9.out); have HD9 := Lib.hid (HD7.out.step HB9.out); have HC9 := Lib.hid (lwc_step HC7.out HB9.out); have HV9 := Lib.hid (HV7.out.step HB9.out); have HU9 := Lib.hid (HU7.out.step HB9.out); have HX9 := Lib.hid (HX7.out.step HB9.out); have HY9 := Lib.hid (HY.out.step HB9.out); clear HE7 HF7 HH7 HD7 HC7 HV7 HU7 HX7 HY HB7 HB8 HB9 HGN z8; generalize w8.alloc (.cells #[.slice xn (notD t).length kn] 34) = W8 at *
  generalize w8.heap.size = b12 at *
  have HB8 : Hid (Below W8.heap.size W8 W8) := Below.refl _ _; have z10 := HX9.out.box.cell 0; have z11 := HY9.out.box.cell 0; have CSM := lw_same HX9 HY9 HB8; rw [decide_eq_true rfl] at CSM; go_upto_region 10 with (go_at_call 31; refine CSM.mono ?_; rintro e W9 ⟨rfl, HB9⟩); have HE := Lib.hid (HE9.out.step HB9.out); have HF := Lib.hid (HF9.out.step HB9.out); have HH := Lib.hid (HH9.out.step HB9.out); have HD := Lib.hid (HD9.out.step HB9.out); have HC := Lib.hid (lwc_step HC9.out HB9.out); have HV := Lib.hid (HV9.out.step HB9.out); have HU := Lib.hid (HU9.out.step HB9.out); have HX := Lib.hid (HX9.out.step HB9.out); have HN9 := Lib.hid (HN.out.step HB9.out); clear HE9 HF9 HH9 HD9 HC9 HV9 HU9 HX9 HY9 HN HB8 HB9 CSM z10 z11; have x0 := HF.out.box.cell 0; have x1 := HF.out.box.cell 1; have x2 := HF.out.box.cell 2; have x3 := HF.out.box.cell 3; have x4 := HF.out.box.cell 4; have u0 := HH.out.box.cell 0; have u1 := HH.out.box.cell 1; have u2 := HH.out.box.cell 2; have u3 := HH.out.box.cell 3; have u4 := HH.out.box.cell 4; have y0 := HD.out.box.cell 0; go_upto_region 11 with (fail); have HBF9 := lw_bothF HF HH; have HBX9 : Hid (Below W9.heap.size W9 ((W9.alloc (.cells #[.int .i64 f.op, .string f.name, .int .i64 f.cmp, .int .i64 f.n, .slice a f.kids.length k, .int .i64 h.op, .string h.name, .int .i64 h.cmp, .int .i64 h.n, .slice ah h.kids.length kh] 24)).alloc (.cells #[.int .i64 6, .string (⟨#[]⟩ : ByteArray), .int .i64 0, .int .i64 0, .slice (some ⟨W9.heap.size, 0, none⟩) 2 2] 24))) := hd_alloc (hd_alloc (Below.refl _ _)); have HEX := Lib.hid (HE.out.step HBX9.out); have HDX := Lib.hid (HD.out.step HBX9.out); have HCX := Lib.hid (lwc_step HC.out HBX9.out); have HVX := Lib.hid (HV.out.step HBX9.out); have HUX := Lib.hid (HU.out.step HBX9.out); have HXX := Lib.hid (HX.out.step HBX9.out); have HNX := Lib.hid (HN9.out.step HBX9.out); clear HE HF HH HD HC HV HU HX HN9 HBX9 x0 x1 x2 x3 x4 u0 u1 u2 u3 u4 y0; obtain ⟨ro, hro⟩ : ∃ ro, (some ⟨W9.heap.size, 0, none⟩ : Option Addr) = ro := ⟨_, rfl⟩; simp only [hro] at HBF9 HEX HDX HCX HVX HUX HXX HNX ⊢; generalize (W9.alloc (.cells #[.int .i64 f.op, .string f.name, .int .i64 f.cmp, .int .i64 f.n, .slice a f.kids.length k, .int .i64 h.op, .string h.name, .int .i64 h.cmp, .int .i64 h.n, .slice ah h.kids.length kh] 24)).alloc (.cells #[.int .i64 6, .string (⟨#[]⟩ : ByteArray), .int .i64 0, .int .i64 0, .slice ro 2 2] 24) = WX at *
  generalize W9.heap.size + 1 = bb at *
  clear hro; have HB10 : Hid (Below WX.heap.size WX WX) := Below.refl _ _
  have HCB : Hid (∀ w', Hid (Below WX.heap.size WX w') -> w'.cell? ⟨bb, 0, none⟩ = some (.int .i64 6) /\ w'.cell? ⟨bb, 1, none⟩ = some (.string ⟨#[]⟩) /\ w'.cell? ⟨bb, 2, none⟩ = some (.int .i64 0) /\ w'.cell? ⟨bb, 3, none⟩ = some (.int .i64 0) /\ w'.cell? ⟨bb, 4, none⟩ = some (.slice ro 2 2) /\ w'.cell? ⟨w.heap.size + 1 + 1, 0, none⟩ = some (.slice a' d.length k')) := fun w' hb =>
   have q := HBF9.out.box.below hb.out
   ⟨q.cell 0, q.cell 1, q.cell 2, q.cell 3, q.cell 4, (HDX.out.box.below hb.out).cell 0⟩
  obtain ⟨x0, x1, x2, x3, x4, y0⟩ := HCB.out _ HB10; have CSM := Lib.hid (fun w' (hb : Hid (Below WX.heap.size WX w')) => lw_small HBF9 HDX hb); have CCH := Lib.hid (fun w' (hb : Hid (Below WX.heap.size WX w')) => lw_check HBF9 HDX hbs hb); obtain ⟨sb, hsb⟩ : ∃ sb, smallB (bothF f h) d = sb := ⟨_, rfl⟩; obtain ⟨ce, hce⟩ : ∃ ce, checkF (bothF f h) d (fun _ => false) = ce := ⟨_, rfl⟩; rw [hsb] at CSM; rw [hce] at CCH; have HSB := Lib.hid hsb; have HCE := Lib.hid hce; clear hsb hce
  go_cut [73] (fun s73 wx => s73 = .bool (sb && (ce == 0)) /\ Hid (Below WX.heap.size WX wx))
  case first =>
   cases sb with
   | false =>
    go_wp2_with (go_at_call 11; refine (CSM.out _ HB10).mono ?_; rintro e v1 ⟨rfl, HB11⟩; (clear x0 x1 x2 x3 x4 y0; obtain ⟨x0, x1, x2, x3, x4, y0⟩ := HCB.out _ (by assumption))); go_meet; exact ⟨rfl, HB11⟩
   | true =>
    go_wp2_with (first
     | (go_at_call 11; refine (CSM.out _ HB10).mono ?_; rintro e v1 ⟨rfl, HB11⟩; (clear x0 x1 x2 x3 x4 y0; obtain ⟨x0, x1, x2, x3, x4, y0⟩ := HCB.out _ (by assumption)))
     | (go_at_call 14; refine (CCH.out _ HB11).mono ?_; rintro e v2 ⟨rfl, HB12⟩; (clear x0 x1 x2 x3 x4 y0; obtain ⟨x0, x1, x2, x3, x4, y0⟩ := HCB.out _ (by assumption))))
    go_meet; exact ⟨rfl, HB12⟩
  case rest =>
   obtain ⟨rfl, HB11⟩ := hcut
   go_upto_if 73 with (fail)
   go_cut [] (fun wx => Hid (Below WX.heap.size WX wx))
   case first =>
    cases hb : (sb && (ce == 0)) with
    | false =>
     go_wp2; go_meet; exact HB11
    | true =>
     rw [Bool.and_eq_true, beq_iff_eq] at hb; obtain ⟨rfl, rfl⟩ := hb; clear x0 x1 x2 x3 x4 y0; obtain ⟨x0, x1, x2, x3, x4, y0⟩ := HCB.out _ HB11; have CBL := lw_build HEX HBF9 HDX HSB.out HB11; obtain ⟨Z, hZ⟩ : ∃ Z, buildD d (bothF f h) = Z := ⟨_, rfl⟩; have hz1 := HJ.out.both HSB.out HCE.out; have hz2 := HJ.out.okay HCE.out; rw [hZ] at CBL hz1 hz2; obtain ⟨zt, ze⟩ := Z; simp only at CBL hz1 hz2; clear hZ; go_upto_region 13 with (go_at_call 12; refine CBL.mono ?_; rintro e v3 ⟨xz, kz, rfl, HGZ, HB12⟩); have HB13 : Hid (Below WX.heap.size WX (v3.alloc (.cells #[.slice xz zt.length kz] 34))) := hd_alloc HB12; have HZV := dgv_new HGZ; have HXZ := Lib.hid (HXX.out.step HB13.out); clear HB12 HGZ CBL x0 x1 x2 x3 x4 y0; generalize v3.alloc (.cells #[.slice xz zt.length kz] 34) = WZ at *
     generalize v3.heap.size = bz at *
     have p0 := HZV.out.box.cell 0; have p1 := HXZ.out.box.cell 0; rcases hz2 with hz2 | hz2
     ·obtain rfl := hz1 hz2
      subst hz2; have CSZ := lw_same (w := WZ) HXZ HZV (Below.refl _ _); rw [decide_eq_true rfl] at CSZ; clear hz1; go_wp2_with (go_at_call 31; refine CSZ.mono ?_; rintro e v4 ⟨rfl, HB14⟩); go_meet; exact HB13.out.trans (HB14.out.mono HB13.out.size)
     ·subst hz2
      clear hz1; go_wp2; go_meet; exact HB13
   case rest =>
    have HB20 := hcut; have HE := Lib.hid (HEX.out.step HB20.out); have HD := Lib.hid (HDX.out.step HB20.out); have HC := Lib.hid (lwc_step HCX.out HB20.out); have HV := Lib.hid (HVX.out.step HB20.out); have HU := Lib.hid (HUX.out.step HB20.out); have HX := Lib.hid (HXX.out.step HB20.out); have HN := Lib.hid (HNX.out.step HB20.out); clear HEX HDX HCX HVX HUX HXX HNX HB10 HB11 HB20 hcut HCB CSM CCH HBF9 HSB HCE x0 x1 x2 x3 x4 y0
    have HCL : Hid (∀ w', Hid (Below wc.heap.size wc w') -> w'.cell? ⟨w.heap.size + 1 + 1, 0, none⟩ = some (.slice a' d.length k') /\ w'.cell? ⟨b8, 0, none⟩ = some (.slice a1 t.length c1) /\ w'.cell? ⟨b9, 0, none⟩ = some (.slice a2 t2.length c2) /\ w'.cell? ⟨b10, 0, none⟩ = some (.slice xx X.length kx) /\ w'.cell? ⟨b12, 0, none⟩ = some (.slice xn (notD t).length kn)) := fun w' hb =>
     ⟨(HD.out.box.below hb.out).cell 0, (HV.out.box.below hb.out).cell 0, (HU.out.box.below hb.out).cell 0, (HX.out.box.below hb.out).cell 0, (HN.out.box.below hb.out).cell 0⟩
    have CFT := Lib.hid (fun w' (hb : Hid (Below wc.heap.size wc w')) => lw_fits HD HC hb); have CHN := Lib.hid (fun w' (hb : Hid (Below wc.heap.size wc w')) => lw_holds HN HC hb); have CHA := Lib.hid (fun w' (hb : Hid (Below wc.heap.size wc w')) => lw_holds HV HC hb); have CHX := Lib.hid (fun w' (hb : Hid (Below wc.heap.size wc w')) => lw_holds HX HC hb); have CHB := Lib.hid (fun w' (hb : Hid (Below wc.heap.size wc w')) => lw_holds HU HC hb); have HBX : Hid (Below wc.heap.size wc wc.drew) := (Below.refl _ _).drew; cases hft : fitsD d c with
    | false =>
     rw [hft] at CFT; clear CHN CHA CHX CHB HJ; go_upto_region 15 with (fail); refine wp_region_held_drew (S := (fun w' : World => Hid (Below wc.heap.size wc w'))) (by kernel_rfl) HBX (fun hHeld => ?_); refine tp 0 ⟨some 96, .move (.tmp 9), 4, "law.go:133", #[], none⟩ ?_
     try simp only [Act.put, sA, sB, sC]
     refine tp 1 ⟨some 97, .move (.tmp 96), 4, "law.go:133", #[⟨0, .data⟩], none⟩ ?_
     try simp only [Act.put, sA, sB, sC]
     refine tk 2 ⟨some 98, .load 27 (.tmp 6), 27, "law.go:133", #[⟨1, .guard⟩], some (1, true)⟩ ?va2 ?ya2 ?_
     case ya2 => (intro w9 hSw; obtain ⟨y0, y1, y2, y3, y4⟩ := HCL.out w9 hSw; go_simp; try with_reducible rfl)
     try simp only [Act.put, sA, sB, sC]
     refine tp 3 ⟨some 99, .move (.tmp 3), 29, "law.go:133", #[⟨1, .guard⟩], some (1, true)⟩ ?_
     try simp only [Act.put, sA, sB, sC]
     refine tr 4 ⟨some 100, .call { callee := .value (.func 16), args := #[.tmp 98, .tmp 99], argTypes := #[27, 29] }, 4, "law.go:133", #[⟨2, .data⟩, ⟨3, .data⟩, ⟨1, .chain⟩, ⟨1, .guard⟩], some (1, true)⟩ (fun K hK => ?_)
     (go_simp; go_at_call 16; refine (CFT.out _ HBX).mono ?_; rintro e v1 ⟨rfl, HC1⟩)
     refine hK.out _ _ ?_ (fun hHeld => ?_)
     ·exact HC1
     clear hK K
     try simp only [Act.put, sA, sB, sC]
     refine tp 5 ⟨some 101, .unOp .not 4 (.tmp 100), 4, "law.go:133", #[⟨4, .data⟩, ⟨1, .guard⟩], some (1, true)⟩ ?_
     try simp only [Act.put, sA, sB, sC]
     refine tp 6 ⟨some 102, .move (.tmp 101), 4, "law.go:133", #[⟨5, .data⟩, ⟨4, .chain⟩, ⟨1, .guard⟩], some (1, true)⟩ ?_
     try simp only [Act.put, sA, sB, sC]
     refine tu 7 ⟨some 103, .load 34 (.tmp 17), 34, "law.go:133", #[⟨6, .guard⟩], some (6, false)⟩ ?_
     try simp only [Act.put, sA, sB, sC]
     refine tu 8 ⟨some 104, .move (.tmp 3), 29, "law.go:133", #[⟨6, .guard⟩], some (6, false)⟩ ?_
     try simp only [Act.put, sA, sB, sC]
     refine tu 10 ⟨some 106, .load 34 (.tmp 10), 34, "law.go:133", #[⟨6, .guard⟩], some (6, false)⟩ ?_
     try simp only [Act.put, sA, sB, sC]
     refine tu 11 ⟨some 107, .move (.tmp 3), 29, "law.go:133", #[⟨6, .guard⟩], some (6, false)⟩ ?_
     try simp only [Act.put, sA, sB, sC]
     refine tu 9 ⟨some 105, .call { callee := .value (.func 17), args := #[.tmp 103, .tmp 104], argTypes := #[34, 29] }, 4, "law.go:133", #[⟨7, .data⟩, ⟨8, .data⟩, ⟨6, .chain⟩, ⟨6, .guard⟩], some (6, false)⟩ ?_
     try simp only [Act.put, sA, sB, sC]
     refine tu 12 ⟨some 108, .call { callee := .value (.func 17), args := #[.tmp 106, .tmp 107], argTypes := #[34, 29] }, 4, "law.go:133", #[⟨10, .data⟩, ⟨11, .data⟩, ⟨9, .chain⟩, ⟨6, .guard⟩], some (6, false)⟩ ?_
     try simp only [Act.put, sA, sB, sC]
     refine tu 13 ⟨some 109, .binOp .neq 4 (.tmp 105) (.tmp 108) 4, 4, "law.go:133", #[⟨9, .data⟩, ⟨12, .data⟩, ⟨6, .guard⟩], some (6, false)⟩ ?_
     try simp only [Act.put, sA, sB, sC]
     refine tu 14 ⟨some 110, .move (.tmp 109), 4, "law.go:133", #[⟨13, .data⟩, ⟨12, .chain⟩, ⟨6, .guard⟩], some (6, false)⟩ ?_
     try simp only [Act.put, sA, sB, sC]
     refine tu 15 ⟨some 111, .load 34 (.tmp 13), 34, "law.go:133", #[⟨14, .guard⟩], some (14, true)⟩ ?_
     try simp only [Act.put, sA, sB, sC]
     refine tu 16 ⟨some 112, .move (.tmp 3), 29, "law.go:133", #[⟨14, .guard⟩], some (14, true)⟩ ?_
     try simp only [Act.put, sA, sB, sC]
     refine tu 18 ⟨some 114, .load 34 (.tmp 10), 34, "law.go:133", #[⟨14, .guard⟩], some (14, true)⟩ ?_
     try simp only [Act.put, sA, sB, sC]
     refine tu 19 ⟨some 115, .move (.tmp 3), 29, "law.go:133", #[⟨14, .guard⟩], some (14, true)⟩ ?_
     try simp only [Act.put, sA, sB, sC]
     refine tu 17 ⟨some 113, .call { callee := .value (.func 17), args := #[.tmp 111, .tmp 112], argTypes := #[34, 29] }, 4, "law.go:133", #[⟨15, .data⟩, ⟨16, .data⟩, ⟨14, .chain⟩, ⟨14, .guard⟩], some (14, true)⟩ ?_
     try simp only [Act.put, sA, sB, sC]
     refine tu 20 ⟨some 116, .call { callee := .value (.func 17), args := #[.tmp 114, .tmp 115], argTypes := #[34, 29] }, 4, "law.go:133", #[⟨18, .data⟩, ⟨19, .data⟩, ⟨17, .chain⟩, ⟨14, .guard⟩], some (14, true)⟩ ?_
     try simp only [Act.put, sA, sB, sC]
     refine tu 21 ⟨some 117, .move (.tmp 116), 4, "law.go:133", #[⟨20, .data⟩, ⟨20, .chain⟩, ⟨14, .guard⟩], some (14, true)⟩ ?_
     try simp only [Act.put, sA, sB, sC]
     refine tu 22 ⟨some 118, .load 34 (.tmp 11), 34, "law.go:133", #[⟨21, .guard⟩], some (21, true)⟩ ?_
     try simp only [Act.put, sA, sB, sC]
     refine tu 23 ⟨some 119, .move (.tmp 3), 29, "law.go:133", #[⟨21, .guard⟩], some (21, true)⟩ ?_
     try simp only [Act.put, sA, sB, sC]
     refine tu 24 ⟨some 120, .call { callee := .value (.func 17), args := #[.tmp 118, .tmp 119], argTypes := #[34, 29] }, 4, "law.go:133", #[⟨22, .data⟩, ⟨23, .data⟩, ⟨21, .chain⟩, ⟨21, .guard⟩], some (21, true)⟩ ?_
     try simp only [Act.put, sA, sB, sC]
     refine tu 25 ⟨some 121, .pick (.tmp 117) (.tmp 120) (.const (.bool false)), 4, "law.go:133", #[⟨21, .data⟩, ⟨24, .data⟩, ⟨14, .guard⟩], some (14, true)⟩ ?_
     try simp only [Act.put, sA, sB, sC]
     refine tu 26 ⟨some 122, .binOp .eql 4 (.tmp 113) (.tmp 121) 4, 4, "law.go:133", #[⟨17, .data⟩, ⟨25, .data⟩, ⟨14, .guard⟩], some (14, true)⟩ ?_
     try simp only [Act.put, sA, sB, sC]
     refine tu 27 ⟨some 123, .pick (.tmp 110) (.tmp 122) (.const (.bool false)), 4, "law.go:133", #[⟨14, .data⟩, ⟨26, .data⟩, ⟨6, .guard⟩], some (6, false)⟩ ?_
     try simp only [Act.put, sA, sB, sC]
     refine tp 28 ⟨some 124, .pick (.tmp 102) (.const (.bool true)) (.tmp 123), 4, "law.go:133", #[⟨6, .data⟩, ⟨27, .data⟩, ⟨1, .guard⟩], some (1, true)⟩ ?_
     try simp only [Act.put, sA, sB, sC]
     refine tp 29 ⟨some 125, .pick (.tmp 97) (.tmp 124) (.const (.bool false)), 4, "law.go:133", #[⟨1, .data⟩, ⟨28, .data⟩], none⟩ ?_
     try simp only [Act.put, sA, sB, sC]
     refine tp 30 ⟨some 8, .assign (.tmp 125), 4, "law.go:133", #[⟨29, .data⟩, ⟨24, .chain⟩, ⟨0, .phase⟩, ⟨1, .phase⟩, ⟨2, .phase⟩, ⟨3, .phase⟩, ⟨4, .phase⟩, ⟨5, .phase⟩, ⟨6, .phase⟩, ⟨7, .phase⟩, ⟨8, .phase⟩, ⟨9, .phase⟩, ⟨10, .phase⟩, ⟨11, .phase⟩, ⟨12, .phase⟩, ⟨13, .phase⟩, ⟨14, .phase⟩, ⟨15, .phase⟩, ⟨16, .phase⟩, ⟨17, .phase⟩, ⟨18, .phase⟩, ⟨19, .phase⟩, ⟨20, .phase⟩, ⟨21, .phase⟩, ⟨22, .phase⟩, ⟨23, .phase⟩, ⟨24, .phase⟩, ⟨25, .phase⟩, ⟨26, .phase⟩, ⟨27, .phase⟩, ⟨28, .phase⟩, ⟨29, .phase⟩], none⟩ ?_
     try simp only [Act.put, sA, sB, sC]
     refine wpAnyH_done (by kernel_rfl) ?_ _
     (go_wp2; refine bodyPost_ret (by simp [results, Tryz.results8, go_sem]; try rfl) rfl ?_; exact ⟨by first | rfl | simp, HE.out.low.trans ((show Hid (Below wc.heap.size wc _) by assumption).out.mono HE.out.low.size)⟩)
    | true =>
     rw [hft] at CFT; have j1 := HJ.out.opp c hft; have j2 := HJ.out.holds c hft; rw [j1] at CHN; rw [j2] at CHX; clear HJ j1 j2; generalize walkG t2 c t2.length 0 = hb at *
     cases hwa : walkG t c t.length 0 with
     | false =>
      rw [hwa] at CHN CHA CHX; go_upto_region 15 with (fail); refine wp_region_held_drew (S := (fun w' : World => Hid (Below wc.heap.size wc w'))) (by kernel_rfl) HBX (fun hHeld => ?_); refine tp 0 ⟨some 96, .move (.tmp 9), 4, "law.go:133", #[], none⟩ ?_
      try simp only [Act.put, sA, sB, sC]
      refine tp 1 ⟨some 97, .move (.tmp 96), 4, "law.go:133", #[⟨0, .data⟩], none⟩ ?_
      try simp only [Act.put, sA, sB, sC]
      refine tk 2 ⟨some 98, .load 27 (.tmp 6), 27, "law.go:133", #[⟨1, .guard⟩], some (1, true)⟩ ?vb2 ?yb2 ?_
      case yb2 => (intro w9 hSw; obtain ⟨y0, y1, y2, y3, y4⟩ := HCL.out w9 hSw; go_simp; try with_reducible rfl)
      try simp only [Act.put, sA, sB, sC]
      refine tp 3 ⟨some 99, .move (.tmp 3), 29, "law.go:133", #[⟨1, .guard⟩], some (1, true)⟩ ?_
      try simp only [Act.put, sA, sB, sC]
      refine tr 4 ⟨some 100, .call { callee := .value (.func 16), args := #[.tmp 98, .tmp 99], argTypes := #[27, 29] }, 4, "law.go:133", #[⟨2, .data⟩, ⟨3, .data⟩, ⟨1, .chain⟩, ⟨1, .guard⟩], some (1, true)⟩ (fun K hK => ?_)
      (go_simp; go_at_call 16; refine (CFT.out _ HBX).mono ?_; rintro e v1 ⟨rfl, HC1⟩)
      refine hK.out _ _ ?_ (fun hHeld => ?_)
      ·exact HC1
      clear hK K
      try simp only [Act.put, sA, sB, sC]
      refine tp 5 ⟨some 101, .unOp .not 4 (.tmp 100), 4, "law.go:133", #[⟨4, .data⟩, ⟨1, .guard⟩], some (1, true)⟩ ?_
      try simp only [Act.put, sA, sB, sC]
      refine tp 6 ⟨some 102, .move (.tmp 101), 4, "law.go:133", #[⟨5, .data⟩, ⟨4, .chain⟩, ⟨1, .guard⟩], some (1, true)⟩ ?_
      try simp only [Act.put, sA, sB, sC]
      refine tk 7 ⟨some 103, .load 34 (.tmp 17), 34, "law.go:133", #[⟨6, .guard⟩], some (6, false)⟩ ?vb7 ?yb7 ?_
      case yb7 => (intro w9 hSw; obtain ⟨y0, y1, y2, y3, y4⟩ := HCL.out w9 hSw; go_simp; try with_reducible rfl)
      try simp only [Act.put, sA, sB, sC]
      refine tp 8 ⟨some 104, .move (.tmp 3), 29, "law.go:133", #[⟨6, .guard⟩], some (6, false)⟩ ?_
      try simp only [Act.put, sA, sB, sC]
      refine tk 10 ⟨some 106, .load 34 (.tmp 10), 34, "law.go:133", #[⟨6, .guard⟩], some (6, false)⟩ ?vb10 ?yb10 ?_
      case yb10 => (intro w9 hSw; obtain ⟨y0, y1, y2, y3, y4⟩ := HCL.out w9 hSw; go_simp; try with_reducible rfl)
      try simp only [Act.put, sA, sB, sC]
      refine tp 11 ⟨some 107, .move (.tmp 3), 29, "law.go:133", #[⟨6, .guard⟩], some (6, false)⟩ ?_
      try simp only [Act.put, sA, sB, sC]
      refine tr 9 ⟨some 105, .call { callee := .value (.func 17), args := #[.tmp 103, .tmp 104], argTypes := #[34, 29] }, 4, "law.go:133", #[⟨7, .data⟩, ⟨8, .data⟩, ⟨6, .chain⟩, ⟨6, .guard⟩], some (6, false)⟩ (fun K hK => ?_)
      (go_simp; go_at_call 17; refine (CHN.out _ HC1).mono ?_; rintro e v2 ⟨rfl, HC2⟩)
      refine hK.out _ _ ?_ (fun hHeld => ?_)
      ·exact HC2
      clear hK K
      try simp only [Act.put, sA, sB, sC]
      refine tr 12 ⟨some 108, .call { callee := .value (.func 17), args := #[.tmp 106, .tmp 107], argTypes := #[34, 29] }, 4, "law.go:133", #[⟨10, .data⟩, ⟨11, .data⟩, ⟨9, .chain⟩, ⟨6, .guard⟩], some (6, false)⟩ (fun K hK => ?_)
      (go_simp; go_at_call 17; refine (CHA.out _ HC2).mono ?_; rintro e v3 ⟨rfl, HC3⟩)
      refine hK.out _ _ ?_ (fun hHeld => ?_)
      ·exact HC3
      clear hK K
      try simp only [Act.put, sA, sB, sC]
      refine tp 13 ⟨some 109, .binOp .neq 4 (.tmp 105) (.tmp 108) 4, 4, "law.go:133", #[⟨9, .data⟩, ⟨12, .data⟩, ⟨6, .guard⟩], some (6, false)⟩ ?_
      try simp only [Act.put, sA, sB, sC]
      refine tp 14 ⟨some 110, .move (.tmp 109), 4, "law.go:133", #[⟨13, .data⟩, ⟨12, .chain⟩, ⟨6, .guard⟩], some (6, false)⟩ ?_
      try simp only [Act.put, sA, sB, sC]
      refine tk 15 ⟨some 111, .load 34 (.tmp 13), 34, "law.go:133", #[⟨14, .guard⟩], some (14, true)⟩ ?vb15 ?yb15 ?_
      case yb15 => (intro w9 hSw; obtain ⟨y0, y1, y2, y3, y4⟩ := HCL.out w9 hSw; go_simp; try with_reducible rfl)
      try simp only [Act.put, sA, sB, sC]
      refine tp 16 ⟨some 112, .move (.tmp 3), 29, "law.go:133", #[⟨14, .guard⟩], some (14, true)⟩ ?_
      try simp only [Act.put, sA, sB, sC]
      refine tk 18 ⟨some 114, .load 34 (.tmp 10), 34, "law.go:133", #[⟨14, .guard⟩], some (14, true)⟩ ?vb18 ?yb18 ?_
      case yb18 => (intro w9 hSw; obtain ⟨y0, y1, y2, y3, y4⟩ := HCL.out w9 hSw; go_simp; try with_reducible rfl)
      try simp only [Act.put, sA, sB, sC]
      refine tp 19 ⟨some 115, .move (.tmp 3), 29, "law.go:133", #[⟨14, .guard⟩], some (14, true)⟩ ?_
      try simp only [Act.put, sA, sB, sC]
      refine tr 17 ⟨some 113, .call { callee := .value (.func 17), args := #[.tmp 111, .tmp 112], argTypes := #[34, 29] }, 4, "law.go:133", #[⟨15, .data⟩, ⟨16, .data⟩, ⟨14, .chain⟩, ⟨14, .guard⟩], some (14, true)⟩ (fun K hK => ?_)
      (go_simp; go_at_call 17; refine (CHX.out _ HC3).mono ?_; rintro e v4 ⟨rfl, HC4⟩)
      refine hK.out _ _ ?_ (fun hHeld => ?_)
      ·exact HC4
      clear hK K
      try simp only [Act.put, sA, sB, sC]
      refine tr 20 ⟨some 116, .call { callee := .value (.func 17), args := #[.tmp 114, .tmp 115], argTypes := #[34, 29] }, 4, "law.go:133", #[⟨18, .data⟩, ⟨19, .data⟩, ⟨17, .chain⟩, ⟨14, .guard⟩], some (14, true)⟩ (fun K hK => ?_)
      (go_simp; go_at_call 17; refine (CHA.out _ HC4).mono ?_; rintro e v5 ⟨rfl, HC5⟩)
      refine hK.out _ _ ?_ (fun hHeld => ?_)
      ·exact HC5
      clear hK K
      try simp only [Act.put, sA, sB, sC]
      refine tp 21 ⟨some 117, .move (.tmp 116), 4, "law.go:133", #[⟨20, .data⟩, ⟨20, .chain⟩, ⟨14, .guard⟩], some (14, true)⟩ ?_
      try simp only [Act.put, sA, sB, sC]
      refine tu 22 ⟨some 118, .load 34 (.tmp 11), 34, "law.go:133", #[⟨21, .guard⟩], some (21, true)⟩ ?_
      try simp only [Act.put, sA, sB, sC]
      refine tu 23 ⟨some 119, .move (.tmp 3), 29, "law.go:133", #[⟨21, .guard⟩], some (21, true)⟩ ?_
      try simp only [Act.put, sA, sB, sC]
      refine tu 24 ⟨some 120, .call { callee := .value (.func 17), args := #[.tmp 118, .tmp 119], argTypes := #[34, 29] }, 4, "law.go:133", #[⟨22, .data⟩, ⟨23, .data⟩, ⟨21, .chain⟩, ⟨21, .guard⟩], some (21, true)⟩ ?_
      try simp only [Act.put, sA, sB, sC]
      refine tp 25 ⟨some 121, .pick (.tmp 117) (.tmp 120) (.const (.bool false)), 4, "law.go:133", #[⟨21, .data⟩, ⟨24, .data⟩, ⟨14, .guard⟩], some (14, true)⟩ ?_
      try simp only [Act.put, sA, sB, sC]
      refine tp 26 ⟨some 122, .binOp .eql 4 (.tmp 113) (.tmp 121) 4, 4, "law.go:133", #[⟨17, .data⟩, ⟨25, .data⟩, ⟨14, .guard⟩], some (14, true)⟩ ?_
      try simp only [Act.put, sA, sB, sC]
      refine tp 27 ⟨some 123, .pick (.tmp 110) (.tmp 122) (.const (.bool false)), 4, "law.go:133", #[⟨14, .data⟩, ⟨26, .data⟩, ⟨6, .guard⟩], some (6, false)⟩ ?_
      try simp only [Act.put, sA, sB, sC]
      refine tp 28 ⟨some 124, .pick (.tmp 102) (.const (.bool true)) (.tmp 123), 4, "law.go:133", #[⟨6, .data⟩, ⟨27, .data⟩, ⟨1, .guard⟩], some (1, true)⟩ ?_
      try simp only [Act.put, sA, sB, sC]
      refine tp 29 ⟨some 125, .pick (.tmp 97) (.tmp 124) (.const (.bool false)), 4, "law.go:133", #[⟨1, .data⟩, ⟨28, .data⟩], none⟩ ?_
      try simp only [Act.put, sA, sB, sC]
      refine tp 30 ⟨some 8, .assign (.tmp 125), 4, "law.go:133", #[⟨29, .data⟩, ⟨24, .chain⟩, ⟨0, .phase⟩, ⟨1, .phase⟩, ⟨2, .phase⟩, ⟨3, .phase⟩, ⟨4, .phase⟩, ⟨5, .phase⟩, ⟨6, .phase⟩, ⟨7, .phase⟩, ⟨8, .phase⟩, ⟨9, .phase⟩, ⟨10, .phase⟩, ⟨11, .phase⟩, ⟨12, .phase⟩, ⟨13, .phase⟩, ⟨14, .phase⟩, ⟨15, .phase⟩, ⟨16, .phase⟩, ⟨17, .phase⟩, ⟨18, .phase⟩, ⟨19, .phase⟩, ⟨20, .phase⟩, ⟨21, .phase⟩, ⟨22, .phase⟩, ⟨23, .phase⟩, ⟨24, .phase⟩, ⟨25, .phase⟩, ⟨26, .phase⟩, ⟨27, .phase⟩, ⟨28, .phase⟩, ⟨29, .phase⟩], none⟩ ?_
      try simp only [Act.put, sA, sB, sC]
      refine wpAnyH_done (by kernel_rfl) ?_ _
      (go_wp2; refine bodyPost_ret (by simp [results, Tryz.results8, go_sem]; try rfl) rfl ?_; exact ⟨by first | rfl | simp, HE.out.low.trans ((show Hid (Below wc.heap.size wc _) by assumption).out.mono HE.out.low.size)⟩)
     | true =>
      rw [hwa] at CHN CHA CHX; simp only [Bool.true_and] at CHX; have hbb : (hb == hb) = true := by simp
      go_upto_region 15 with (fail); refine wp_region_held_drew (S := (fun w' : World => Hid (Below wc.heap.size wc w'))) (by kernel_rfl) HBX (fun hHeld => ?_); refine tp 0 ⟨some 96, .move (.tmp 9), 4, "law.go:133", #[], none⟩ ?_
      try simp only [Act.put, sA, sB, sC]
      refine tp 1 ⟨some 97, .move (.tmp 96), 4, "law.go:133", #[⟨0, .data⟩], none⟩ ?_
      try simp only [Act.put, sA, sB, sC]
      refine tk 2 ⟨some 98, .load 27 (.tmp 6), 27, "law.go:133", #[⟨1, .guard⟩], some (1, true)⟩ ?vc2 ?yc2 ?_
      case yc2 => (intro w9 hSw; obtain ⟨y0, y1, y2, y3, y4⟩ := HCL.out w9 hSw; go_simp; try with_reducible rfl)
      try simp only [Act.put, sA, sB, sC]
      refine tp 3 ⟨some 99, .move (.tmp 3), 29, "law.go:133", #[⟨1, .guard⟩], some (1, true)⟩ ?_
      try simp only [Act.put, sA, sB, sC]
      refine tr 4 ⟨some 100, .call { callee := .value (.func 16), args := #[.tmp 98, .tmp 99], argTypes := #[27, 29] }, 4, "law.go:133", #[⟨2, .data⟩, ⟨3, .data⟩, ⟨1, .chain⟩, ⟨1, .guard⟩], some (1, true)⟩ (fun K hK => ?_)
      (go_simp; go_at_call 16; refine (CFT.out _ HBX).mono ?_; rintro e v1 ⟨rfl, HC1⟩)
      refine hK.out _ _ ?_ (fun hHeld => ?_)
      ·exact HC1
      clear hK K
      try simp only [Act.put, sA, sB, sC]
      refine tp 5 ⟨some 101, .unOp .not 4 (.tmp 100), 4, "law.go:133", #[⟨4, .data⟩, ⟨1, .guard⟩], some (1, true)⟩ ?_
      try simp only [Act.put, sA, sB, sC]
      refine tp 6 ⟨some 102, .move (.tmp 101), 4, "law.go:133", #[⟨5, .data⟩, ⟨4, .chain⟩, ⟨1, .guard⟩], some (1, true)⟩ ?_
      try simp only [Act.put, sA, sB, sC]
      refine tk 7 ⟨some 103, .load 34 (.tmp 17), 34, "law.go:133", #[⟨6, .guard⟩], some (6, false)⟩ ?vc7 ?yc7 ?_
      case yc7 => (intro w9 hSw; obtain ⟨y0, y1, y2, y3, y4⟩ := HCL.out w9 hSw; go_simp; try with_reducible rfl)
      try simp only [Act.put, sA, sB, sC]
      refine tp 8 ⟨some 104, .move (.tmp 3), 29, "law.go:133", #[⟨6, .guard⟩], some (6, false)⟩ ?_
      try simp only [Act.put, sA, sB, sC]
      refine tk 10 ⟨some 106, .load 34 (.tmp 10), 34, "law.go:133", #[⟨6, .guard⟩], some (6, false)⟩ ?vc10 ?yc10 ?_
      case yc10 => (intro w9 hSw; obtain ⟨y0, y1, y2, y3, y4⟩ := HCL.out w9 hSw; go_simp; try with_reducible rfl)
      try simp only [Act.put, sA, sB, sC]
      refine tp 11 ⟨some 107, .move (.tmp 3), 29, "law.go:133", #[⟨6, .guard⟩], some (6, false)⟩ ?_
      try simp only [Act.put, sA, sB, sC]
      refine tr 9 ⟨some 105, .call { callee := .value (.func 17), args := #[.tmp 103, .tmp 104], argTypes := #[34, 29] }, 4, "law.go:133", #[⟨7, .data⟩, ⟨8, .data⟩, ⟨6, .chain⟩, ⟨6, .guard⟩], some (6, false)⟩ (fun K hK => ?_)
      (go_simp; go_at_call 17; refine (CHN.out _ HC1).mono ?_; rintro e v2 ⟨rfl, HC2⟩)
      refine hK.out _ _ ?_ (fun hHeld => ?_)
      ·exact HC2
      clear hK K
      try simp only [Act.put, sA, sB, sC]
      refine tr 12 ⟨some 108, .call { callee := .value (.func 17), args := #[.tmp 106, .tmp 107], argTypes := #[34, 29] }, 4, "law.go:133", #[⟨10, .data⟩, ⟨11, .data⟩, ⟨9, .chain⟩, ⟨6, .guard⟩], some (6, false)⟩ (fun K hK => ?_)
      (go_simp; go_at_call 17; refine (CHA.out _ HC2).mono ?_; rintro e v3 ⟨rfl, HC3⟩)
      refine hK.out _ _ ?_ (fun hHeld => ?_)
      ·exact HC3
      clear hK K
      try simp only [Act.put, sA, sB, sC]
      refine tp 13 ⟨some 109, .binOp .neq 4 (.tmp 105) (.tmp 108) 4, 4, "law.go:133", #[⟨9, .data⟩, ⟨12, .data⟩, ⟨6, .guard⟩], some (6, false)⟩ ?_
      try simp only [Act.put, sA, sB, sC]
      refine tp 14 ⟨some 110, .move (.tmp 109), 4, "law.go:133", #[⟨13, .data⟩, ⟨12, .chain⟩, ⟨6, .guard⟩], some (6, false)⟩ ?_
      try simp only [Act.put, sA, sB, sC]
      refine tk 15 ⟨some 111, .load 34 (.tmp 13), 34, "law.go:133", #[⟨14, .guard⟩], some (14, true)⟩ ?vc15 ?yc15 ?_
      case yc15 => (intro w9 hSw; obtain ⟨y0, y1, y2, y3, y4⟩ := HCL.out w9 hSw; go_simp; try with_reducible rfl)
      try simp only [Act.put, sA, sB, sC]
      refine tp 16 ⟨some 112, .move (.tmp 3), 29, "law.go:133", #[⟨14, .guard⟩], some (14, true)⟩ ?_
      try simp only [Act.put, sA, sB, sC]
      refine tk 18 ⟨some 114, .load 34 (.tmp 10), 34, "law.go:133", #[⟨14, .guard⟩], some (14, true)⟩ ?vc18 ?yc18 ?_
      case yc18 => (intro w9 hSw; obtain ⟨y0, y1, y2, y3, y4⟩ := HCL.out w9 hSw; go_simp; try with_reducible rfl)
      try simp only [Act.put, sA, sB, sC]
      refine tp 19 ⟨some 115, .move (.tmp 3), 29, "law.go:133", #[⟨14, .guard⟩], some (14, true)⟩ ?_
      try simp only [Act.put, sA, sB, sC]
      refine tr 17 ⟨some 113, .call { callee := .value (.func 17), args := #[.tmp 111, .tmp 112], argTypes := #[34, 29] }, 4, "law.go:133", #[⟨15, .data⟩, ⟨16, .data⟩, ⟨14, .chain⟩, ⟨14, .guard⟩], some (14, true)⟩ (fun K hK => ?_)
      (go_simp; go_at_call 17; refine (CHX.out _ HC3).mono ?_; rintro e v4 ⟨rfl, HC4⟩)
      refine hK.out _ _ ?_ (fun hHeld => ?_)
      ·exact HC4
      clear hK K
      try simp only [Act.put, sA, sB, sC]
      refine tr 20 ⟨some 116, .call { callee := .value (.func 17), args := #[.tmp 114, .tmp 115], argTypes := #[34, 29] }, 4, "law.go:133", #[⟨18, .data⟩, ⟨19, .data⟩, ⟨17, .chain⟩, ⟨14, .guard⟩], some (14, true)⟩ (fun K hK => ?_)
      (go_simp; go_at_call 17; refine (CHA.out _ HC4).mono ?_; rintro e v5 ⟨rfl, HC5⟩)
      refine hK.out _ _ ?_ (fun hHeld => ?_)
      ·exact HC5
      clear hK K
      try simp only [Act.put, sA, sB, sC]
      refine tp 21 ⟨some 117, .move (.tmp 116), 4, "law.go:133", #[⟨20, .data⟩, ⟨20, .chain⟩, ⟨14, .guard⟩], some (14, true)⟩ ?_
      try simp only [Act.put, sA, sB, sC]
      refine tk 22 ⟨some 118, .load 34 (.tmp 11), 34, "law.go:133", #[⟨21, .guard⟩], some (21, true)⟩ ?vc22 ?yc22 ?_
      case yc22 => (intro w9 hSw; obtain ⟨y0, y1, y2, y3, y4⟩ := HCL.out w9 hSw; go_simp; try with_reducible rfl)
      try simp only [Act.put, sA, sB, sC]
      refine tp 23 ⟨some 119, .move (.tmp 3), 29, "law.go:133", #[⟨21, .guard⟩], some (21, true)⟩ ?_
      try simp only [Act.put, sA, sB, sC]
      refine tr 24 ⟨some 120, .call { callee := .value (.func 17), args := #[.tmp 118, .tmp 119], argTypes := #[34, 29] }, 4, "law.go:133", #[⟨22, .data⟩, ⟨23, .data⟩, ⟨21, .chain⟩, ⟨21, .guard⟩], some (21, true)⟩ (fun K hK => ?_)
      (go_simp; go_at_call 17; refine (CHB.out _ HC5).mono ?_; rintro e v6 ⟨rfl, HC6⟩)
      refine hK.out _ _ ?_ (fun hHeld => ?_)
      ·exact HC6
      clear hK K
      try simp only [Act.put, sA, sB, sC]
      refine tp 25 ⟨some 121, .pick (.tmp 117) (.tmp 120) (.const (.bool false)), 4, "law.go:133", #[⟨21, .data⟩, ⟨24, .data⟩, ⟨14, .guard⟩], some (14, true)⟩ ?_
      try simp only [Act.put, sA, sB, sC]
      refine tp 26 ⟨some 122, .binOp .eql 4 (.tmp 113) (.tmp 121) 4, 4, "law.go:133", #[⟨17, .data⟩, ⟨25, .data⟩, ⟨14, .guard⟩], some (14, true)⟩ ?_
      try simp only [Act.put, sA, sB, sC]
      refine tp 27 ⟨some 123, .pick (.tmp 110) (.tmp 122) (.const (.bool false)), 4, "law.go:133", #[⟨14, .data⟩, ⟨26, .data⟩, ⟨6, .guard⟩], some (6, false)⟩ ?_
      try simp only [Act.put, sA, sB, sC]
      refine tp 28 ⟨some 124, .pick (.tmp 102) (.const (.bool true)) (.tmp 123), 4, "law.go:133", #[⟨6, .data⟩, ⟨27, .data⟩, ⟨1, .guard⟩], some (1, true)⟩ ?_
      try simp only [Act.put, sA, sB, sC]
      refine tp 29 ⟨some 125, .pick (.tmp 97) (.tmp 124) (.const (.bool false)), 4, "law.go:133", #[⟨1, .data⟩, ⟨28, .data⟩], none⟩ ?_
      try simp only [Act.put, sA, sB, sC]
      refine tp 30 ⟨some 8, .assign (.tmp 125), 4, "law.go:133", #[⟨29, .data⟩, ⟨24, .chain⟩, ⟨0, .phase⟩, ⟨1, .phase⟩, ⟨2, .phase⟩, ⟨3, .phase⟩, ⟨4, .phase⟩, ⟨5, .phase⟩, ⟨6, .phase⟩, ⟨7, .phase⟩, ⟨8, .phase⟩, ⟨9, .phase⟩, ⟨10, .phase⟩, ⟨11, .phase⟩, ⟨12, .phase⟩, ⟨13, .phase⟩, ⟨14, .phase⟩, ⟨15, .phase⟩, ⟨16, .phase⟩, ⟨17, .phase⟩, ⟨18, .phase⟩, ⟨19, .phase⟩, ⟨20, .phase⟩, ⟨21, .phase⟩, ⟨22, .phase⟩, ⟨23, .phase⟩, ⟨24, .phase⟩, ⟨25, .phase⟩, ⟨26, .phase⟩, ⟨27, .phase⟩, ⟨28, .phase⟩, ⟨29, .phase⟩], none⟩ ?_
      try simp only [Act.put, sA, sB, sC]
      refine wpAnyH_done (by kernel_rfl) ?_ _
      (go_wp2; refine bodyPost_ret (by simp [results, Tryz.results8, go_sem]; try rfl) rfl ?_; exact ⟨by first | rfl | simp, HE.out.low.trans ((show Hid (Below wc.heap.size wc _) by assumption).out.mono HE.out.low.size)⟩)
end Go.Proofs.YtejbgoigkefnfaaGreatDoor
