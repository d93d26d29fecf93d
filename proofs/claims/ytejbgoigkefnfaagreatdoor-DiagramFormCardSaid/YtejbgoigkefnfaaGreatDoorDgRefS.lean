/- The walks of pandectref11.Equal and Same, of pandectref06.Equal and Less. No conditions. -/
import Derived.Test.YtejbgoigkefnfaaGreatDoorDgEq
set_option maxRecDepth 100000
set_option maxHeartbeats 4000000
namespace Go.Proofs.YtejbgoigkefnfaaGreatDoor
open Go.RowKit
theorem len_ne {α : Type} {a b : List α} (h : a.length ≠ b.length) : a ≠ b := fun e => h (by rw [e])
theorem refEqual_any (n m : Dn) (vc vk vc2 vk2 : Value) (w : World) (B : Nat) (hB : B <= w.heap.size) (h1 : IntsIn w B n.cuts vc) (h2 : IntsIn w B n.kids vk) (h3 : IntsIn w B m.cuts vc2) (h4 : IntsIn w B m.kids vk2) :
  Calls Tryz.prog 77 #[.agg #[.int .i64 n.fact, vc, vk, .bool n.leaf], .agg #[.int .i64 m.fact, vc2, vk2, .bool m.leaf]] w fun e w' => e = .returned (.bool (decide (n = m))) /\ Below w.heap.size w w' := by
 have H1 := Lib.hid h1; have H2 := Lib.hid h2; have H3 := Lib.hid h3; have H4 := Lib.hid h4; obtain ⟨ac, cc, rfl, l1, l2, _⟩ := SlIn.shape h1; obtain ⟨ak, ck, rfl, l3, l4, _⟩ := SlIn.shape h2; obtain ⟨ac2, cc2, rfl, l5, l6, _⟩ := SlIn.shape h3; obtain ⟨ak2, ck2, rfl, l7, l8, _⟩ := SlIn.shape h4; unfold maxLen at l2 l4 l6 l8; have hR := dn_eq n m; obtain ⟨R, hR2⟩ : ∃ R, decide (n = m) = R := ⟨_, rfl⟩; rw [hR2] at hR ⊢; have hb2 : Below w.heap.size w ((w.alloc (.cells #[.int .i64 n.fact, .slice ac n.cuts.length cc, .slice ak n.kids.length ck, .bool n.leaf] 56)).alloc (.cells #[.int .i64 m.fact, .slice ac2 m.cuts.length cc2, .slice ak2 m.kids.length ck2, .bool m.leaf] 56)) := ((Below.refl _ _).alloc (Nat.le_refl _) _).alloc (by simp) _; have K0 : Blk ((w.alloc (.cells #[.int .i64 n.fact, .slice ac n.cuts.length cc, .slice ak n.kids.length ck, .bool n.leaf] 56)).alloc (.cells #[.int .i64 m.fact, .slice ac2 m.cuts.length cc2, .slice ak2 m.kids.length ck2, .bool m.leaf] 56)) w.heap.size 56 #[.int .i64 n.fact, .slice ac n.cuts.length cc, .slice ak n.kids.length ck, .bool n.leaf] := (Blk.new w 56 #[.int .i64 n.fact, .slice ac n.cuts.length cc, .slice ak n.kids.length ck, .bool n.leaf]).alloc _
 have K1 : Blk ((w.alloc (.cells #[.int .i64 n.fact, .slice ac n.cuts.length cc, .slice ak n.kids.length ck, .bool n.leaf] 56)).alloc (.cells #[.int .i64 m.fact, .slice ac2 m.cuts.length cc2, .slice ak2 m.kids.length ck2, .bool m.leaf] 56)) (w.heap.size + 1) 56 #[.int .i64 m.fact, .slice ac2 m.cuts.length cc2, .slice ak2 m.kids.length ck2, .bool m.leaf] := by
  have q := Blk.new (w.alloc (.cells #[.int .i64 n.fact, .slice ac n.cuts.length cc, .slice ak n.kids.length ck, .bool n.leaf] 56)) 56 #[.int .i64 m.fact, .slice ac2 m.cuts.length cc2, .slice ak2 m.kids.length ck2, .bool m.leaf]
  simpa only [World.size_alloc] using q
 have hs2 : (((w.alloc (.cells #[.int .i64 n.fact, .slice ac n.cuts.length cc, .slice ak n.kids.length ck, .bool n.leaf] 56)).alloc (.cells #[.int .i64 m.fact, .slice ac2 m.cuts.length cc2, .slice ak2 m.kids.length ck2, .bool m.leaf] 56))).heap.size = w.heap.size + 2 := by simp
 obtain ⟨W, hW⟩ : ∃ W, ((w.alloc (.cells #[.int .i64 n.fact, .slice ac n.cuts.length cc, .slice ak n.kids.length ck, .bool n.leaf] 56)).alloc (.cells #[.int .i64 m.fact, .slice ac2 m.cuts.length cc2, .slice ak2 m.kids.length ck2, .bool m.leaf] 56)) = W := ⟨_, rfl⟩; rw [hW] at hb2 K0 K1 hs2; have HW := Lib.hid hW; have HB2 := Lib.hid hb2; have HK0 := Lib.hid K0; have HK1 := Lib.hid K1; have x0 := K0.cell 0; have x1 := K0.cell 1; have x2 := K0.cell 2; have x3 := K0.cell 3; have y0 := K1.cell 0; have y1 := K1.cell 1; have y2 := K1.cell 2; have y3 := K1.cell 3; have HR := Lib.hid hR; clear h1 h2 h3 h4 hR hR2 hW hb2 K0 K1; cases e1 : (n.fact != m.fact) with
 | true =>
  have HS := Lib.hid (show R = false by rw [HR.out, show (n.fact == m.fact) = false by simpa using e1]; rfl); go_enter Tryz.func77, Tryz.ntmps77; go_upto_region 1 with (fail); rw [HW.out]; go_wp2; go_ret; exact ⟨ret_bool HS.out.symm, HB2.out⟩
 | false =>
  have e1b : (n.fact == m.fact) = true := by simpa using e1
  cases e2 : (n.leaf == m.leaf) with
  | false =>
   have HS := Lib.hid (show R = false by rw [HR.out, e2]; simp); clear e1b; go_enter Tryz.func77, Tryz.ntmps77; go_upto_region 1 with (fail); rw [HW.out]; go_wp2; go_ret; exact ⟨ret_bool HS.out.symm, HB2.out⟩
  | true =>
   cases e3 : ((n.cuts.length : Int) != (m.cuts.length : Int)) with
   | true =>
    have hne : n.cuts ≠ m.cuts := len_ne (fun e => by rw [e] at e3; simp at e3); have HS := Lib.hid (show R = false by rw [HR.out, decide_eq_false hne]; simp); clear e1b hne; go_enter Tryz.func77, Tryz.ntmps77; go_upto_region 1 with (fail); rw [HW.out]; go_wp2; go_ret; exact ⟨ret_bool HS.out.symm, HB2.out⟩
   | false =>
    have hlc : Hid (n.cuts.length = m.cuts.length) := by
     have : (n.cuts.length : Int) = (m.cuts.length : Int) := by simpa using e3
     show _ = _
     omega
    cases e4 : ((n.kids.length : Int) != (m.kids.length : Int)) with
    | true =>
     have hne : n.kids ≠ m.kids := len_ne (fun e => by rw [e] at e4; simp at e4); have HS := Lib.hid (show R = false by rw [HR.out, decide_eq_false hne]; simp); clear e1b hne; go_enter Tryz.func77, Tryz.ntmps77; go_upto_region 1 with (fail); rw [HW.out]; go_wp2; go_ret; exact ⟨ret_bool HS.out.symm, HB2.out⟩
    | false =>
     have hlk : Hid (n.kids.length = m.kids.length) := by
      have : (n.kids.length : Int) = (m.kids.length : Int) := by simpa using e4
      show _ = _
      omega
     have HS : Hid (R = (decide (n.cuts.drop 0 = m.cuts.drop 0) && decide (n.kids = m.kids))) := by show _ = _; rw [HR.out, e1b, e2]; rfl
     clear e1b HR; go_enter Tryz.func77, Tryz.ntmps77; go_upto_region 1 with (fail); rw [HW.out]; go_wp2
     go_loopw [5] (fun iv wr => ∃ k : Nat, k <= n.cuts.length /\ iv = .int .i64 k /\ Hid (R = (decide (n.cuts.drop k = m.cuts.drop k) && decide (n.kids = m.kids))) /\ Hid (Below W.heap.size W wr)) (fun iv _ => n.cuts.length - (intOf iv).toNat)
     case atStart => exact ⟨0, by omega, rfl, HS, Below.refl _ _⟩
     case round =>
      obtain ⟨k, hk, rfl, hRk, hb⟩ := hrel; clear HS x0 x1 x2 x3 y0 y1 y2 y3; have hs := hb.out.size; have HBR := Lib.hid (HB2.out.trans (hb.out.mono (by omega))); have x1 := (HK0.out.below hb.out).cell 1; have x2 := (HK0.out.below hb.out).cell 2; have y1 := (HK1.out.below hb.out).cell 1; have y2 := (HK1.out.below hb.out).cell 2; by_cases hlt : k < n.cuts.length
      ·have hlt2 : k < m.cuts.length := by have := hlc.out; omega
       obtain ⟨b, o, rfl, hbB, hc⟩ := SlIn.one H1.out k hlt; obtain ⟨b', o', rfl, hbB', hc'⟩ := SlIn.one H3.out k hlt2; have q1 := (HBR.out.cell (p := ⟨b, o + k, none⟩) (by show b < w.heap.size; omega)).trans hc; have q2 := (HBR.out.cell (p := ⟨b', o' + k, none⟩) (by show b' < w.heap.size; omega)).trans hc'; have hRR := hRk.out; rw [eq_drop n.cuts m.cuts k hlt hlt2] at hRR; clear hc hc' hRk; generalize n.cuts[k] = p at *
       generalize m.cuts[k] = q at *
       cases e : (p != q) with
       | true =>
        have HS := Lib.hid (show R = false by rw [hRR, decide_eq_false (by simpa using e)]; rfl); clear hRR; go_wp2
        go_quiet (fail)
        go_wp2; go_ret; exact ⟨ret_bool HS.out.symm, HBR.out.trans (World.drewN_below _ _ _)⟩
       | false =>
        have HS : Hid (R = (decide (n.cuts.drop (k + 1) = m.cuts.drop (k + 1)) && decide (n.kids = m.kids))) := by show _ = _; rw [hRR, decide_eq_true (by simpa using e)]; rfl
        clear hRR; go_wp2
        go_quiet (fail)
        go_wp2; go_roundw
        case rel => exact ⟨k + 1, by omega, by go_num, HS, hb.out.trans (World.drewN_below _ _ _)⟩
        case measure => simp [intOf]; omega
      ·have HS0 : Hid (R = decide (n.kids.drop 0 = m.kids.drop 0)) := by
        show _ = _
        have h := hRk.out; rw [List.drop_of_length_le (by omega), List.drop_of_length_le (by have := hlc.out; omega)] at h
        simpa using h
       clear hRk; go_wp2
       go_loopw [6] (fun iv wq => ∃ k : Nat, k <= n.kids.length /\ iv = .int .i64 k /\ Hid (R = decide (n.kids.drop k = m.kids.drop k)) /\ Hid (Below W.heap.size W wq)) (fun iv _ => n.kids.length - (intOf iv).toNat)
       case atStart => exact ⟨0, by omega, rfl, HS0, hb⟩
       case round =>
        rename World => wq
        obtain ⟨k, hk, rfl, hRk, hb⟩ := hrel; clear HS0 x1 x2 y1 y2 HBR; have hs := hb.out.size; have HBR := Lib.hid (HB2.out.trans (hb.out.mono (by omega))); have x2 := (HK0.out.below hb.out).cell 2; have y2 := (HK1.out.below hb.out).cell 2; by_cases hlt : k < n.kids.length
        ·have hlt2 : k < m.kids.length := by have := hlk.out; omega
         obtain ⟨b, o, rfl, hbB, hc⟩ := SlIn.one H2.out k hlt; obtain ⟨b', o', rfl, hbB', hc'⟩ := SlIn.one H4.out k hlt2; have q1 := (HBR.out.cell (p := ⟨b, o + k, none⟩) (by show b < w.heap.size; omega)).trans hc; have q2 := (HBR.out.cell (p := ⟨b', o' + k, none⟩) (by show b' < w.heap.size; omega)).trans hc'; have hRR := hRk.out; rw [eq_drop n.kids m.kids k hlt hlt2] at hRR; clear hc hc' hRk; generalize n.kids[k] = p at *
         generalize m.kids[k] = q at *
         cases e : (p != q) with
         | true =>
          have HS := Lib.hid (show R = false by rw [hRR, decide_eq_false (by simpa using e)]; rfl); clear hRR; go_wp2
          go_quiet (fail)
          go_wp2; go_ret; exact ⟨ret_bool HS.out.symm, HBR.out.trans (World.drewN_below _ _ _)⟩
         | false =>
          have HS : Hid (R = decide (n.kids.drop (k + 1) = m.kids.drop (k + 1))) := by show _ = _; rw [hRR, decide_eq_true (by simpa using e)]; rfl
          clear hRR; go_wp2
          go_quiet (fail)
          go_wp2; go_roundw
          case rel => exact ⟨k + 1, by omega, by go_num, HS, hb.out.trans (World.drewN_below _ _ _)⟩
          case measure => simp [intOf]; omega
        ·have HS := Lib.hid (show R = true by
          have h := hRk.out; rw [List.drop_of_length_le (by omega), List.drop_of_length_le (by have := hlk.out; omega)] at h
          simpa using h)
         clear hRk; go_wp2; go_ret; exact ⟨ret_bool HS.out.symm, HBR.out⟩
theorem refSame_any (x y : List Dn) (v u : Value) (w : World) (B : Nat) (hB : B <= w.heap.size) (hx : DgIn w B x v) (hy : DgIn w B y u) :
  Calls Tryz.prog 27 #[v, u] w fun e w' => e = .returned (.bool (decide (x = y))) /\ Below w.heap.size w w' := by
 obtain ⟨_, rfl, hx⟩ := hx; obtain ⟨_, rfl, hy⟩ := hy; have HX := Lib.hid hx; have HY := Lib.hid hy; obtain ⟨a1, c1, rfl, l1, l2, _⟩ := SlIn.shape hx; obtain ⟨a2, c2, rfl, l3, l4, _⟩ := SlIn.shape hy; unfold maxLen at l2 l4; have hb2 : Below w.heap.size w ((w.alloc (.cells #[.slice a1 x.length c1] 34)).alloc (.cells #[.slice a2 y.length c2] 34)) := ((Below.refl _ _).alloc (Nat.le_refl _) _).alloc (by simp) _; have K0 : Blk ((w.alloc (.cells #[.slice a1 x.length c1] 34)).alloc (.cells #[.slice a2 y.length c2] 34)) w.heap.size 34 #[.slice a1 x.length c1] := (Blk.new w 34 #[.slice a1 x.length c1]).alloc _
 have K1 : Blk ((w.alloc (.cells #[.slice a1 x.length c1] 34)).alloc (.cells #[.slice a2 y.length c2] 34)) (w.heap.size + 1) 34 #[.slice a2 y.length c2] := by
  have q := Blk.new (w.alloc (.cells #[.slice a1 x.length c1] 34)) 34 #[.slice a2 y.length c2]
  simpa only [World.size_alloc] using q
 have hs2 : (((w.alloc (.cells #[.slice a1 x.length c1] 34)).alloc (.cells #[.slice a2 y.length c2] 34))).heap.size = w.heap.size + 2 := by simp
 obtain ⟨W, hW⟩ : ∃ W, ((w.alloc (.cells #[.slice a1 x.length c1] 34)).alloc (.cells #[.slice a2 y.length c2] 34)) = W := ⟨_, rfl⟩; rw [hW] at hb2 K0 K1 hs2; have HW := Lib.hid hW; have HB2 := Lib.hid hb2; have HK0 := Lib.hid K0; have HK1 := Lib.hid K1; have x0 := K0.cell 0; have y0 := K1.cell 0; obtain ⟨R, hR⟩ : ∃ R, decide (x = y) = R := ⟨_, rfl⟩; rw [hR]; clear hx hy hW hb2 K0 K1; by_cases hl : x.length = y.length
 ·have e1 : ((x.length : Int) != (y.length : Int)) = false := by simp [hl]
  have HL : Hid (x.length = y.length) := hl; have HS : Hid (R = decide (x.drop 0 = y.drop 0)) := hR.symm; clear hl hR; go_enter Tryz.func27, Tryz.ntmps27; go_upto_region 1 with (fail); rw [HW.out]; go_wp2
  go_loopw [5] (fun iv wr => ∃ k : Nat, k <= x.length /\ iv = .int .i64 k /\ Hid (R = decide (x.drop k = y.drop k)) /\ Hid (Below W.heap.size W wr)) (fun iv _ => x.length - (intOf iv).toNat)
  case atStart => exact ⟨0, by omega, rfl, HS, Below.refl _ _⟩
  case round =>
   obtain ⟨k, hk, rfl, hRk, hb⟩ := hrel; clear HS x0 y0; have hsz := hb.out.size; have x0 := (HK0.out.below hb.out).cell 0; have y0 := (HK1.out.below hb.out).cell 0; by_cases hlt : k < x.length
   ·have hlt2 : k < y.length := by have := HL.out; omega
    obtain ⟨b, o, rfl, hbB, vc, vk, n0, n1, n2, n3, hcu, hki⟩ := HX.out.at k hlt; obtain ⟨b', o', rfl, hbB', vc2, vk2, m0, m1, m2, m3, hcu2, hki2⟩ := HY.out.at k hlt2; have hRR := hRk.out; rw [eq_drop x y k hlt hlt2] at hRR; have HRR := Lib.hid hRR; have HC := Lib.hid (fun W' (hW' : Hid (Below W.heap.size W W')) => refEqual_any x[k] y[k] vc vk vc2 vk2 W' B (by have := hW'.out.size; omega) (IntsIn.below ((HB2.out.trans (hW'.out.mono (by omega))).mono hB) hcu) (IntsIn.below ((HB2.out.trans (hW'.out.mono (by omega))).mono hB) hki) (IntsIn.below ((HB2.out.trans (hW'.out.mono (by omega))).mono hB) hcu2) (IntsIn.below ((HB2.out.trans (hW'.out.mono (by omega))).mono hB) hki2)); obtain ⟨ac, cc, rfl, _⟩ := SlIn.shape hcu; obtain ⟨ak, ck, rfl, _⟩ := SlIn.shape hki; obtain ⟨ac2, cc2, rfl, _⟩ := SlIn.shape hcu2; obtain ⟨ak2, ck2, rfl, _⟩ := SlIn.shape hki2; clear hcu hki hcu2 hki2 hRk hRR; generalize x[k] = p at *
    generalize y[k] = q at *
    have HKP : Hid (∀ w', Hid (Below W.heap.size W w') -> (w'.cell? ⟨w.heap.size, 0, none⟩ = some (.slice (some ⟨b, o, none⟩) x.length c1) /\ w'.cell? ⟨w.heap.size + 1, 0, none⟩ = some (.slice (some ⟨b', o', none⟩) y.length c2) /\ w'.cell? ⟨b, o + k * 4, none⟩ = some (.int .i64 p.fact) /\ w'.cell? ⟨b, o + k * 4 + 1, none⟩ = some (.slice ac p.cuts.length cc) /\ w'.cell? ⟨b, o + k * 4 + 2, none⟩ = some (.slice ak p.kids.length ck) /\ w'.cell? ⟨b, o + k * 4 + 3, none⟩ = some (.bool p.leaf) /\ w'.cell? ⟨b', o' + k * 4, none⟩ = some (.int .i64 q.fact) /\ w'.cell? ⟨b', o' + k * 4 + 1, none⟩ = some (.slice ac2 q.cuts.length cc2) /\ w'.cell? ⟨b', o' + k * 4 + 2, none⟩ = some (.slice ak2 q.kids.length ck2) /\ w'.cell? ⟨b', o' + k * 4 + 3, none⟩ = some (.bool q.leaf)) /\ Hid (Below W.heap.size W w')) := by
     intro w' hw; have hbw := HB2.out.trans (hw.out.mono (by omega))
     exact ⟨⟨(HK0.out.below hw.out).cell 0, (HK1.out.below hw.out).cell 0, (hbw.cell (p := ⟨b, _, none⟩) (by show b < w.heap.size; omega)).trans n0, (hbw.cell (p := ⟨b, _, none⟩) (by show b < w.heap.size; omega)).trans n1, (hbw.cell (p := ⟨b, _, none⟩) (by show b < w.heap.size; omega)).trans n2, (hbw.cell (p := ⟨b, _, none⟩) (by show b < w.heap.size; omega)).trans n3,
      (hbw.cell (p := ⟨b', _, none⟩) (by show b' < w.heap.size; omega)).trans m0, (hbw.cell (p := ⟨b', _, none⟩) (by show b' < w.heap.size; omega)).trans m1, (hbw.cell (p := ⟨b', _, none⟩) (by show b' < w.heap.size; omega)).trans m2, (hbw.cell (p := ⟨b', _, none⟩) (by show b' < w.heap.size; omega)).trans m3⟩, hw⟩
    have HW0 : Hid (Below W.heap.size W wr.drew) := hb.out.trans ((Below.refl wr.heap.size wr).drew.mono hsz); clear n0 n1 n2 n3 m0 m1 m2 m3; have hkx : (k : Int) < (x.length : Int) := by omega
    have hky : (k : Int) < (y.length : Int) := by omega
    cases e : decide (p = q) with
    | true =>
     have HS : Hid (R = decide (x.drop (k + 1) = y.drop (k + 1))) := by show _ = _; rw [HRR.out, e]; rfl
     rw [e] at HC; clear HRR e; go_upto_region 6 with (fail)
     go_region_held3 (fun w' => (w'.cell? ⟨w.heap.size, 0, none⟩ = some (.slice (some ⟨b, o, none⟩) x.length c1) /\ w'.cell? ⟨w.heap.size + 1, 0, none⟩ = some (.slice (some ⟨b', o', none⟩) y.length c2) /\ w'.cell? ⟨b, o + k * 4, none⟩ = some (.int .i64 p.fact) /\ w'.cell? ⟨b, o + k * 4 + 1, none⟩ = some (.slice ac p.cuts.length cc) /\ w'.cell? ⟨b, o + k * 4 + 2, none⟩ = some (.slice ak p.kids.length ck) /\ w'.cell? ⟨b, o + k * 4 + 3, none⟩ = some (.bool p.leaf) /\ w'.cell? ⟨b', o' + k * 4, none⟩ = some (.int .i64 q.fact) /\ w'.cell? ⟨b', o' + k * 4 + 1, none⟩ = some (.slice ac2 q.cuts.length cc2) /\ w'.cell? ⟨b', o' + k * 4 + 2, none⟩ = some (.slice ak2 q.kids.length ck2) /\ w'.cell? ⟨b', o' + k * 4 + 3, none⟩ = some (.bool q.leaf)) /\ Hid (Below W.heap.size W w'))
      (exact HKP.out _ (by assumption))
      ((go_at_call 77; refine (HC.out _ (by assumption)).mono ?_; rintro e w8 ⟨rfl, hb8⟩; have HW8 : Hid (Below W.heap.size W w8) := HW0.out.trans (hb8.mono (by show W.heap.size <= wr.heap.size; omega))))
     go_split_ands; go_wp2; go_roundw
     case rel => exact ⟨k + 1, by omega, by go_num, HS, HW8⟩
     case measure => simp [intOf]; omega
    | false =>
     have HS := Lib.hid (show R = false by rw [HRR.out, e]; rfl); rw [e] at HC; clear HRR e; go_upto_region 6 with (fail)
     go_region_held3 (fun w' => (w'.cell? ⟨w.heap.size, 0, none⟩ = some (.slice (some ⟨b, o, none⟩) x.length c1) /\ w'.cell? ⟨w.heap.size + 1, 0, none⟩ = some (.slice (some ⟨b', o', none⟩) y.length c2) /\ w'.cell? ⟨b, o + k * 4, none⟩ = some (.int .i64 p.fact) /\ w'.cell? ⟨b, o + k * 4 + 1, none⟩ = some (.slice ac p.cuts.length cc) /\ w'.cell? ⟨b, o + k * 4 + 2, none⟩ = some (.slice ak p.kids.length ck) /\ w'.cell? ⟨b, o + k * 4 + 3, none⟩ = some (.bool p.leaf) /\ w'.cell? ⟨b', o' + k * 4, none⟩ = some (.int .i64 q.fact) /\ w'.cell? ⟨b', o' + k * 4 + 1, none⟩ = some (.slice ac2 q.cuts.length cc2) /\ w'.cell? ⟨b', o' + k * 4 + 2, none⟩ = some (.slice ak2 q.kids.length ck2) /\ w'.cell? ⟨b', o' + k * 4 + 3, none⟩ = some (.bool q.leaf)) /\ Hid (Below W.heap.size W w'))
      (exact HKP.out _ (by assumption))
      ((go_at_call 77; refine (HC.out _ (by assumption)).mono ?_; rintro e w8 ⟨rfl, hb8⟩; have HW8 : Hid (Below W.heap.size W w8) := HW0.out.trans (hb8.mono (by show W.heap.size <= wr.heap.size; omega))))
     go_split_ands; go_wp2; go_ret; exact ⟨ret_bool HS.out.symm, HB2.out.trans (HW8.out.mono (by omega))⟩
   ·have HS := Lib.hid (show R = true by
     have h := hRk.out; rw [List.drop_of_length_le (by omega), List.drop_of_length_le (by have := HL.out; omega)] at h
     simpa using h)
    clear hRk; go_wp2; go_ret; exact ⟨ret_bool HS.out.symm, HB2.out.trans (hb.out.mono (by omega))⟩
 ·have e1 : ((x.length : Int) != (y.length : Int)) = true := by rw [bne_iff_ne]; omega
  have HS := Lib.hid (show R = false by rw [<- hR]; exact decide_eq_false fun e => hl (by rw [e])); clear hl hR; go_enter Tryz.func27, Tryz.ntmps27; go_upto_region 1 with (fail); rw [HW.out]; go_wp2; go_ret; exact ⟨ret_bool HS.out.symm, HB2.out⟩
theorem refEq6_any (x y : List Int) (v u : Value) (w : World) (B : Nat) (hB : B <= w.heap.size) (hx : IntsIn w B x v) (hy : IntsIn w B y u) :
  Calls Tryz.prog 28 #[v, u] w fun e w' => e = .returned (.bool (decide (x = y))) /\ Below w.heap.size w w' := by
 have HX := Lib.hid hx; have HY := Lib.hid hy; obtain ⟨a1, c1, rfl, l1, l2, _⟩ := SlIn.shape hx; obtain ⟨a2, c2, rfl, l3, l4, _⟩ := SlIn.shape hy; unfold maxLen at l2 l4; obtain ⟨R, hR⟩ : ∃ R, decide (x = y) = R := ⟨_, rfl⟩; rw [hR]; clear hx hy; by_cases hl : x.length = y.length
 ·have e1 : ((x.length : Int) != (y.length : Int)) = false := by simp [hl]
  have HL : Hid (x.length = y.length) := hl; have HS : Hid (R = decide (x.drop 0 = y.drop 0)) := hR.symm; clear hl hR; go_enter Tryz.func28, Tryz.ntmps28; go_wp2
  go_loopw [5] (fun iv wr => ∃ k : Nat, k <= x.length /\ iv = .int .i64 k /\ Hid (R = decide (x.drop k = y.drop k)) /\ Hid (Below w.heap.size w wr)) (fun iv _ => x.length - (intOf iv).toNat)
  case atStart => exact ⟨0, by omega, rfl, HS, Below.refl _ _⟩
  case round =>
   obtain ⟨k, hk, rfl, hRk, hb⟩ := hrel; clear HS; by_cases hlt : k < x.length
   ·have hlt2 : k < y.length := by have := HL.out; omega
    obtain ⟨b, o, rfl, hbB, hc⟩ := SlIn.one HX.out k hlt; obtain ⟨b', o', rfl, hbB', hc'⟩ := SlIn.one HY.out k hlt2; have q1 := (hb.out.cell (p := ⟨b, o + k, none⟩) (by show b < w.heap.size; omega)).trans hc; have q2 := (hb.out.cell (p := ⟨b', o' + k, none⟩) (by show b' < w.heap.size; omega)).trans hc'; have hRR := hRk.out; rw [eq_drop x y k hlt hlt2] at hRR; clear hc hc' hRk; generalize x[k] = p at *
    generalize y[k] = q at *
    have hs := hb.out.size; cases e : (p != q) with
    | true =>
     have HS := Lib.hid (show R = false by rw [hRR, decide_eq_false (by simpa using e)]; rfl); clear hRR; go_wp2
     go_quiet (fail)
     go_wp2; go_ret; exact ⟨ret_bool HS.out.symm, hb.out.trans (World.drewN_below _ _ _)⟩
    | false =>
     have HS : Hid (R = decide (x.drop (k + 1) = y.drop (k + 1))) := by show _ = _; rw [hRR, decide_eq_true (by simpa using e)]; rfl
     clear hRR; go_wp2
     go_quiet (fail)
     go_wp2; go_roundw
     case rel => exact ⟨k + 1, by omega, by go_num, HS, hb.out.trans (World.drewN_below _ _ _)⟩
     case measure => simp [intOf]; omega
   ·have HS := Lib.hid (show R = true by
     have h := hRk.out; rw [List.drop_of_length_le (by omega), List.drop_of_length_le (by have := HL.out; omega)] at h
     simpa using h)
    clear hRk; go_wp2; go_ret; exact ⟨ret_bool HS.out.symm, hb.out⟩
 ·have e1 : ((x.length : Int) != (y.length : Int)) = true := by rw [bne_iff_ne]; omega
  have HS := Lib.hid (show R = false by rw [<- hR]; exact decide_eq_false fun e => hl (by rw [e])); clear hl hR; go_enter Tryz.func28, Tryz.ntmps28; go_wp2; go_ret; exact ⟨ret_bool HS.out.symm, Below.refl _ _⟩
def lessL : List Int -> List Int -> Bool
 | [], _ => false
 | _ :: _, [] => false
 | a :: x, b :: y => if a = b then lessL x y else decide (a < b)
end Go.Proofs.YtejbgoigkefnfaaGreatDoor
