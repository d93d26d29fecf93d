/- The walks of slices.Equal at ints, of the closure of diagram.Same, of slices.EqualFunc at nodes, and of diagram.Same. No conditions. -/
import Derived.Test.YtejbgoigkefnfaaGreatDoorDgBN
set_option maxRecDepth 100000
set_option maxHeartbeats 4000000
namespace Go.Proofs.YtejbgoigkefnfaaGreatDoor
open Go.RowKit
theorem eq_drop {α : Type} [DecidableEq α] (x y : List α) (k : Nat) (h : k < x.length) (h' : k < y.length) : decide (x.drop k = y.drop k) = (decide (x[k] = y[k]) && decide (x.drop (k + 1) = y.drop (k + 1))) := by
 have e1 := List.drop_eq_getElem_cons h; have e2 := List.drop_eq_getElem_cons h'; rw [Bool.eq_iff_iff, Bool.and_eq_true, decide_eq_true_iff, decide_eq_true_iff, decide_eq_true_iff, e1, e2, List.cons.injEq]
theorem eqI_any (x y : List Int) (v u : Value) (w : World) (B : Nat) (hB : B <= w.heap.size) (hx : IntsIn w B x v) (hy : IntsIn w B y u) :
  Calls Tryz.prog 83 #[v, u] w fun e w' => e = .returned (.bool (decide (x = y))) /\ Below w.heap.size w w' := by
 have HX := Lib.hid hx; have HY := Lib.hid hy; obtain ⟨a1, c1, rfl, l1, l2, _⟩ := SlIn.shape hx; obtain ⟨a2, c2, rfl, l3, l4, _⟩ := SlIn.shape hy; unfold maxLen at l2 l4; obtain ⟨R, hR⟩ : ∃ R, decide (x = y) = R := ⟨_, rfl⟩; rw [hR]; clear hx hy; by_cases hl : x.length = y.length
 ·have e1 : ((x.length : Int) != (y.length : Int)) = false := by simp [hl]
  have HL : Hid (x.length = y.length) := hl; have HS : Hid (R = decide (x.drop 0 = y.drop 0)) := hR.symm; clear hl hR; go_enter Tryz.func83, Tryz.ntmps83; go_wp2
  go_loopw [13] (fun iv wr => ∃ k : Nat, k <= x.length /\ iv = .int .i64 k /\ Hid (R = decide (x.drop k = y.drop k)) /\ Hid (Below w.heap.size w wr)) (fun iv _ => x.length - (intOf iv).toNat)
  case atStart => exact ⟨0, by omega, rfl, HS, Below.refl _ _⟩
  case round =>
   obtain ⟨k, hk, rfl, hRk, hb⟩ := hrel; clear HS; by_cases hlt : k < x.length
   ·have hlt2 : k < y.length := by have := HL.out; omega
    obtain ⟨b, o, rfl, hbB, hc⟩ := SlIn.one HX.out k hlt; obtain ⟨b', o', rfl, hbB', hc'⟩ := SlIn.one HY.out k hlt2; have q1 := (hb.out.cell (p := ⟨b, o + k, none⟩) (by show b < w.heap.size; omega)).trans hc; have q2 := (hb.out.cell (p := ⟨b', o' + k, none⟩) (by show b' < w.heap.size; omega)).trans hc'; have hRR := hRk.out; rw [eq_drop x y k hlt hlt2] at hRR; clear hc hc' hRk; generalize x[k] = p at *
    generalize y[k] = q at *
    have hs := hb.out.size; cases e : (p != q) with
    | true =>
     have HS := Lib.hid (show R = false by rw [hRR, decide_eq_false (by simpa using e)]; rfl); clear hRR; go_wp2
     go_quiet (fail)
     go_wp2; go_ret; exact ⟨ret_bool HS.out.symm, hb.out.trans (World.drewN_below _ _ _)⟩
    | false =>
     have HS : Hid (R = decide (x.drop (k + 1) = y.drop (k + 1))) := by show _ = _; rw [hRR, decide_eq_true (by simpa using e)]; rfl
     clear hRR; go_wp2
     go_quiet (fail)
     go_wp2; go_roundw
     case rel => exact ⟨k + 1, by omega, by go_num, HS, hb.out.trans (World.drewN_below _ _ _)⟩
     case measure => simp [intOf]; omega
   ·have HS := Lib.hid (show R = true by
     have h := hRk.out; rw [List.drop_of_length_le (by omega), List.drop_of_length_le (by have := HL.out; omega)] at h
     simpa using h)
    clear hRk; go_wp2; go_ret; exact ⟨ret_bool HS.out.symm, hb.out⟩
 ·have e1 : ((x.length : Int) != (y.length : Int)) = true := by rw [bne_iff_ne]; omega
  have HS := Lib.hid (show R = false by rw [<- hR]; exact decide_eq_false fun e => hl (by rw [e])); clear hl hR; go_enter Tryz.func83, Tryz.ntmps83; go_wp2; go_ret; exact ⟨ret_bool HS.out.symm, Below.refl _ _⟩
theorem dn_eq (n m : Dn) : decide (n = m) = (n.fact == m.fact && (n.leaf == m.leaf && (decide (n.cuts = m.cuts) && decide (n.kids = m.kids)))) := by
 obtain ⟨a, b, c, e⟩ := n; obtain ⟨a', b', c', e'⟩ := m; rw [Bool.eq_iff_iff]; simp only [decide_eq_true_iff, Dn.mk.injEq, Bool.and_eq_true, beq_iff_eq]; constructor
 ·rintro ⟨h1, h2, h3, h4⟩; exact ⟨h1, h4, h2, h3⟩
 ·rintro ⟨h1, h4, h2, h3⟩; exact ⟨h1, h2, h3, h4⟩
theorem same1_any (n m : Dn) (vc vk vc2 vk2 : Value) (w : World) (B : Nat) (hB : B <= w.heap.size) (h1 : IntsIn w B n.cuts vc) (h2 : IntsIn w B n.kids vk) (h3 : IntsIn w B m.cuts vc2) (h4 : IntsIn w B m.kids vk2) :
  Calls Tryz.prog 82 #[.agg #[.int .i64 n.fact, vc, vk, .bool n.leaf], .agg #[.int .i64 m.fact, vc2, vk2, .bool m.leaf]] w fun e w' => e = .returned (.bool (decide (n = m))) /\ Below w.heap.size w w' := by
 obtain ⟨ac, cc, rfl, _⟩ := SlIn.shape h1; obtain ⟨ak, ck, rfl, _⟩ := SlIn.shape h2; obtain ⟨ac2, cc2, rfl, _⟩ := SlIn.shape h3; obtain ⟨ak2, ck2, rfl, _⟩ := SlIn.shape h4; have hR := dn_eq n m; obtain ⟨R, hR2⟩ : ∃ R, decide (n = m) = R := ⟨_, rfl⟩; rw [hR2] at hR ⊢; have hb2 : Below w.heap.size w ((w.alloc (.cells #[.int .i64 n.fact, .slice ac n.cuts.length cc, .slice ak n.kids.length ck, .bool n.leaf] 56)).alloc (.cells #[.int .i64 m.fact, .slice ac2 m.cuts.length cc2, .slice ak2 m.kids.length ck2, .bool m.leaf] 56)) := ((Below.refl _ _).alloc (Nat.le_refl _) _).alloc (by simp) _; have K0 : Blk ((w.alloc (.cells #[.int .i64 n.fact, .slice ac n.cuts.length cc, .slice ak n.kids.length ck, .bool n.leaf] 56)).alloc (.cells #[.int .i64 m.fact, .slice ac2 m.cuts.length cc2, .slice ak2 m.kids.length ck2, .bool m.leaf] 56)) w.heap.size 56 #[.int .i64 n.fact, .slice ac n.cuts.length cc, .slice ak n.kids.length ck, .bool n.leaf] := (Blk.new w 56 #[.int .i64 n.fact, .slice ac n.cuts.length cc, .slice ak n.kids.length ck, .bool n.leaf]).alloc _
 have K1 : Blk ((w.alloc (.cells #[.int .i64 n.fact, .slice ac n.cuts.length cc, .slice ak n.kids.length ck, .bool n.leaf] 56)).alloc (.cells #[.int .i64 m.fact, .slice ac2 m.cuts.length cc2, .slice ak2 m.kids.length ck2, .bool m.leaf] 56)) (w.heap.size + 1) 56 #[.int .i64 m.fact, .slice ac2 m.cuts.length cc2, .slice ak2 m.kids.length ck2, .bool m.leaf] := by
  have q := Blk.new (w.alloc (.cells #[.int .i64 n.fact, .slice ac n.cuts.length cc, .slice ak n.kids.length ck, .bool n.leaf] 56)) 56 #[.int .i64 m.fact, .slice ac2 m.cuts.length cc2, .slice ak2 m.kids.length ck2, .bool m.leaf]
  simpa only [World.size_alloc] using q
 have hs2 : (((w.alloc (.cells #[.int .i64 n.fact, .slice ac n.cuts.length cc, .slice ak n.kids.length ck, .bool n.leaf] 56)).alloc (.cells #[.int .i64 m.fact, .slice ac2 m.cuts.length cc2, .slice ak2 m.kids.length ck2, .bool m.leaf] 56))).heap.size = w.heap.size + 2 := by simp
 obtain ⟨W, hW⟩ : ∃ W, ((w.alloc (.cells #[.int .i64 n.fact, .slice ac n.cuts.length cc, .slice ak n.kids.length ck, .bool n.leaf] 56)).alloc (.cells #[.int .i64 m.fact, .slice ac2 m.cuts.length cc2, .slice ak2 m.kids.length ck2, .bool m.leaf] 56)) = W := ⟨_, rfl⟩; rw [hW] at hb2 K0 K1 hs2; have HW := Lib.hid hW; have HB2 := Lib.hid hb2
 have HE : Hid (∀ w', Below w.heap.size w w' -> Calls Tryz.prog 83 #[.slice ac n.cuts.length cc, .slice ac2 m.cuts.length cc2] w' fun e w'' => e = .returned (.bool (decide (n.cuts = m.cuts))) /\ Below w'.heap.size w' w'') := fun w' hb =>
  eqI_any n.cuts m.cuts _ _ w' B (by have := hb.size; omega) (h1.below (hb.mono hB)) (h3.below (hb.mono hB))
 have HF : Hid (∀ w', Below w.heap.size w w' -> Calls Tryz.prog 83 #[.slice ak n.kids.length ck, .slice ak2 m.kids.length ck2] w' fun e w'' => e = .returned (.bool (decide (n.kids = m.kids))) /\ Below w'.heap.size w' w'') := fun w' hb =>
  eqI_any n.kids m.kids _ _ w' B (by have := hb.size; omega) (h2.below (hb.mono hB)) (h4.below (hb.mono hB))
 have HK0 := Lib.hid K0; have HK1 := Lib.hid K1; have x0 := K0.cell 0; have x1 := K0.cell 1; have x2 := K0.cell 2; have x3 := K0.cell 3; have y0 := K1.cell 0; have y1 := K1.cell 1; have y2 := K1.cell 2; have y3 := K1.cell 3; have HR := Lib.hid hR; clear h1 h2 h3 h4 hR hR2 hW hb2 K0 K1; go_enter Tryz.func82, Tryz.ntmps82; go_upto_region 1 with (fail); rw [HW.out]; cases e1 : (n.fact == m.fact) with
 | false =>
  have HS := Lib.hid (show R = false by rw [HR.out, e1]; rfl); go_wp2; go_ret; exact ⟨ret_bool HS.out.symm, HB2.out⟩
 | true =>
  cases e2 : (n.leaf == m.leaf) with
  | false =>
   have HS := Lib.hid (show R = false by rw [HR.out, e1, e2]; rfl); go_wp2; go_ret; exact ⟨ret_bool HS.out.symm, HB2.out⟩
  | true =>
   have HR2 := Lib.hid (show R = (decide (n.cuts = m.cuts) && decide (n.kids = m.kids)) by rw [HR.out, e1, e2]; rfl); clear HR; generalize decide (n.cuts = m.cuts) = r1 at *
   generalize decide (n.kids = m.kids) = r2 at *
   cases r1 with
   | false =>
    have HS := Lib.hid (show R = false by rw [HR2.out]; rfl); go_wp2_with (go_at_call 83; refine (HE.out _ HB2.out).mono ?_; rintro e w3 ⟨rfl, hb3⟩; have HB3 := Lib.hid (HB2.out.trans (hb3.mono (by omega))); clear hb3); go_ret; exact ⟨ret_bool HS.out.symm, HB3.out⟩
   | true =>
    have HS := Lib.hid (show R = r2 by rw [HR2.out]; rfl)
    go_wp2_with (first
     | (go_at_call 83; refine (HE.out _ HB2.out).mono ?_; rintro e w3 ⟨rfl, hb3⟩; have HB3 := Lib.hid (HB2.out.trans (hb3.mono (by omega))); clear x0 x1 x2 x3 y0 y1 y2 y3 HE; have x2 := (HK0.out.below hb3).cell 2; have y2 := (HK1.out.below hb3).cell 2; clear hb3)
     | (go_at_call 83; refine (HF.out _ HB3.out).mono ?_; rintro e w4 ⟨rfl, hb4⟩; have HB4 := Lib.hid (HB3.out.trans (hb4.mono (by have := HB3.out.size; omega))); clear hb4))
    go_ret; exact ⟨ret_bool HS.out.symm, HB4.out⟩
theorem eqF_any (x y : List Dn) (v u : Value) (w : World) (B : Nat) (hB : B <= w.heap.size) (hx : SlIn DnR 4 w B x v) (hy : SlIn DnR 4 w B y u) :
  Calls Tryz.prog 81 #[v, u, .func (.func 82) #[] #[]] w fun e w' => e = .returned (.bool (decide (x = y))) /\ Below w.heap.size w w' := by
 have HX := Lib.hid hx; have HY := Lib.hid hy; obtain ⟨a1, c1, rfl, l1, l2, _⟩ := SlIn.shape hx; obtain ⟨a2, c2, rfl, l3, l4, _⟩ := SlIn.shape hy; unfold maxLen at l2 l4; obtain ⟨R, hR⟩ : ∃ R, decide (x = y) = R := ⟨_, rfl⟩; rw [hR]; clear hx hy; by_cases hl : x.length = y.length
 ·have e1 : ((x.length : Int) != (y.length : Int)) = false := by simp [hl]
  have HL : Hid (x.length = y.length) := hl; have HS : Hid (R = decide (x.drop 0 = y.drop 0)) := hR.symm; clear hl hR; go_enter Tryz.func81, Tryz.ntmps81; go_wp2
  go_loopw [17] (fun iv wr => ∃ k : Nat, k <= x.length /\ iv = .int .i64 k /\ Hid (R = decide (x.drop k = y.drop k)) /\ Hid (Below w.heap.size w wr)) (fun iv _ => x.length - (intOf iv).toNat)
  case atStart => exact ⟨0, by omega, rfl, HS, Below.refl _ _⟩
  case round =>
   obtain ⟨k, hk, rfl, hRk, hb⟩ := hrel; clear HS; by_cases hlt : k < x.length
   ·have hlt2 : k < y.length := by have := HL.out; omega
    obtain ⟨b, o, rfl, hbB, vc, vk, n0, n1, n2, n3, hcu, hki⟩ := HX.out.at k hlt; obtain ⟨b', o', rfl, hbB', vc2, vk2, m0, m1, m2, m3, hcu2, hki2⟩ := HY.out.at k hlt2; have hs := hb.out.size; have q0 := (hb.out.cell (p := ⟨b, o + k * 4, none⟩) (by show b < w.heap.size; omega)).trans n0; have q1 := (hb.out.cell (p := ⟨b, o + k * 4 + 1, none⟩) (by show b < w.heap.size; omega)).trans n1; have q2 := (hb.out.cell (p := ⟨b, o + k * 4 + 2, none⟩) (by show b < w.heap.size; omega)).trans n2; have q3 := (hb.out.cell (p := ⟨b, o + k * 4 + 3, none⟩) (by show b < w.heap.size; omega)).trans n3; have r0 := ((hb.out.alloc (by omega) (.cells #[.int .i64 x[k].fact, vc, vk, .bool x[k].leaf] 56)).cell (p := ⟨b', o' + k * 4, none⟩) (by show b' < w.heap.size; omega)).trans m0; have r1 := ((hb.out.alloc (by omega) (.cells #[.int .i64 x[k].fact, vc, vk, .bool x[k].leaf] 56)).cell (p := ⟨b', o' + k * 4 + 1, none⟩) (by show b' < w.heap.size; omega)).trans m1; have r2 := ((hb.out.alloc (by omega) (.cells #[.int .i64 x[k].fact, vc, vk, .bool x[k].leaf] 56)).cell (p := ⟨b', o' + k * 4 + 2, none⟩) (by show b' < w.heap.size; omega)).trans m2; have r3 := ((hb.out.alloc (by omega) (.cells #[.int .i64 x[k].fact, vc, vk, .bool x[k].leaf] 56)).cell (p := ⟨b', o' + k * 4 + 3, none⟩) (by show b' < w.heap.size; omega)).trans m3; have s0 := (hb.out.cell (p := ⟨b', o' + k * 4, none⟩) (by show b' < w.heap.size; omega)).trans m0; have s1 := (hb.out.cell (p := ⟨b', o' + k * 4 + 1, none⟩) (by show b' < w.heap.size; omega)).trans m1; have s2 := (hb.out.cell (p := ⟨b', o' + k * 4 + 2, none⟩) (by show b' < w.heap.size; omega)).trans m2; have s3 := (hb.out.cell (p := ⟨b', o' + k * 4 + 3, none⟩) (by show b' < w.heap.size; omega)).trans m3; have hRR := hRk.out; rw [eq_drop x y k hlt hlt2] at hRR; have HC := Lib.hid (fun W (hW : Below w.heap.size w W) => same1_any x[k] y[k] vc vk vc2 vk2 W B (by have := hW.size; omega) (IntsIn.below (hW.mono hB) hcu) (IntsIn.below (hW.mono hB) hki) (IntsIn.below (hW.mono hB) hcu2) (IntsIn.below (hW.mono hB) hki2)); obtain ⟨ac, cc, rfl, _⟩ := SlIn.shape hcu; obtain ⟨ak, ck, rfl, _⟩ := SlIn.shape hki; obtain ⟨ac2, cc2, rfl, _⟩ := SlIn.shape hcu2; obtain ⟨ak2, ck2, rfl, _⟩ := SlIn.shape hki2; have HRR := Lib.hid hRR; clear n0 n1 n2 n3 m0 m1 m2 m3 hcu hki hcu2 hki2 hRk hRR; generalize x[k] = p at *
    generalize y[k] = q at *
    cases e : decide (p = q) with
    | true =>
     have HS : Hid (R = decide (x.drop (k + 1) = y.drop (k + 1))) := by show _ = _; rw [HRR.out, e]; rfl
     rw [e] at HC; clear HRR e; go_wp2_with (go_at_call 82; refine (HC.out _ ?_).mono ?_; (· exact (hb.out.alloc (by omega) _).alloc (by simp; omega) _); rintro e w3 ⟨rfl, hb3⟩; have HB3 := Lib.hid (((hb.out.alloc (by omega) _).alloc (by simp; omega) _).trans (hb3.mono (by simp; omega))); clear hb3); go_roundw
     case rel => exact ⟨k + 1, by omega, by go_num, HS, HB3⟩
     case measure => simp [intOf]; omega
    | false =>
     have HS := Lib.hid (show R = false by rw [HRR.out, e]; rfl); rw [e] at HC; clear HRR e; go_wp2_with (go_at_call 82; refine (HC.out _ ?_).mono ?_; (· exact (hb.out.alloc (by omega) _).alloc (by simp; omega) _); rintro e w3 ⟨rfl, hb3⟩; have HB3 := Lib.hid (((hb.out.alloc (by omega) _).alloc (by simp; omega) _).trans (hb3.mono (by simp; omega))); clear hb3); go_ret; exact ⟨ret_bool HS.out.symm, HB3.out⟩
   ·have HS := Lib.hid (show R = true by
     have h := hRk.out; rw [List.drop_of_length_le (by omega), List.drop_of_length_le (by have := HL.out; omega)] at h
     simpa using h)
    clear hRk; go_wp2; go_ret; exact ⟨ret_bool HS.out.symm, hb.out⟩
 ·have e1 : ((x.length : Int) != (y.length : Int)) = true := by rw [bne_iff_ne]; omega
  have HS := Lib.hid (show R = false by rw [<- hR]; exact decide_eq_false fun e => hl (by rw [e])); clear hl hR; go_enter Tryz.func81, Tryz.ntmps81; go_wp2; go_ret; exact ⟨ret_bool HS.out.symm, Below.refl _ _⟩
theorem sameD_any (x y : List Dn) (v u : Value) (w : World) (B : Nat) (hB : B <= w.heap.size) (hx : DgIn w B x v) (hy : DgIn w B y u) :
  Calls Tryz.prog 31 #[v, u] w fun e w' => e = .returned (.bool (decide (x = y))) /\ Below w.heap.size w w' := by
 obtain ⟨_, rfl, hx⟩ := hx; obtain ⟨_, rfl, hy⟩ := hy; obtain ⟨a1, c1, rfl, l1, l2, _⟩ := SlIn.shape hx; obtain ⟨a2, c2, rfl, l3, l4, _⟩ := SlIn.shape hy; have hb : Below w.heap.size w ((w.alloc (.cells #[.slice a1 x.length c1] 34)).alloc (.cells #[.slice a2 y.length c2] 34)) := ((Below.refl _ _).alloc (Nat.le_refl _) _).alloc (by simp) _; have HC := Lib.hid (eqF_any x y _ _ _ B (by simp; omega) (SlIn.below DnR.kept (hb.mono hB) hx) (SlIn.below DnR.kept (hb.mono hB) hy)); have HB := Lib.hid hb; clear hx hy hb; go_enter Tryz.func31, Tryz.ntmps31; go_wp2_with (go_at_call 81; refine HC.out.mono ?_; rintro e w3 ⟨rfl, hb3⟩; have HB3 := Lib.hid (HB.out.trans (hb3.mono (by simp; omega))); clear hb3); go_ret; exact ⟨rfl, HB3.out⟩
end Go.Proofs.YtejbgoigkefnfaaGreatDoor
