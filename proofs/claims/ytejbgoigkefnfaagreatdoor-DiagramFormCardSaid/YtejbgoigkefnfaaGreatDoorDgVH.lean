/- The walk of fact.Least. No conditions. -/
import Derived.Test.YtejbgoigkefnfaaGreatDoorDgProper
import Derived.Test.YtejbgoigkefnfaaGreatDoorDgEq
import Derived.Test.YtejbgoigkefnfaaGreatDoorDgPl
set_option maxRecDepth 100000
set_option maxHeartbeats 4000000
namespace Go.Proofs.YtejbgoigkefnfaaGreatDoor
section
open Go.RowKit
theorem idx_any_ge {α : Type} (p : α -> Bool) : ∀ (l : List α) (k : Nat), decide (0 <= idxFrom p l (k : Int)) = l.any p
 | [], k => by simp [idxFrom]
 | x :: l, k => by
  rw [idxFrom, List.any_cons]; cases h : p x with
  | true => simp
  | false =>
   rw [if_neg (by simp), Bool.false_or]; exact idx_any_ge p l (k + 1)
theorem valid1_any (d : List Fa) (t : List Dn) (n : Dn) (ag : Option Addr) (cg : Nat) (ad : Option Addr) (cd : Nat) (vc vk : Value) (gp dp : Nat) (w : World) (B : Nat) (hB : B <= w.heap.size) (hg : DgIn w B t (.agg #[.slice ag t.length cg])) (hc : IntsIn w B n.cuts vc) (hk : IntsIn w B n.kids vk)
  (hd : DomIn w B d (.agg #[.slice ad d.length cd])) (hl : n.cuts.length <= 1000000) (h1 : w.cell? ⟨gp, 0, none⟩ = some (.slice ag t.length cg)) (h2 : w.cell? ⟨dp, 0, none⟩ = some (.slice ad d.length cd)) :
  Calls Tryz.prog 52 #[.agg #[.int .i64 n.fact, vc, vk, .bool n.leaf], .pointer (some ⟨gp, 0, none⟩), .pointer (some ⟨dp, 0, none⟩)] w fun e w' => e = .returned (.bool (!properB d t n)) /\ Below w.heap.size w w' := by
 obtain ⟨ac, cc, rfl, _⟩ := SlIn.shape hc; obtain ⟨ak, ck, rfl, _⟩ := SlIn.shape hk; have hb : Below w.heap.size w (w.alloc (.cells #[.int .i64 n.fact, .slice ac n.cuts.length cc, .slice ak n.kids.length ck, .bool n.leaf] 56)) := (Below.refl _ _).alloc (Nat.le_refl _) _; have HC := Lib.hid (proper_any d t n _ _ _ _ _ B (by simp; omega) (hg.below (hb.mono hB)) (hc.below (hb.mono hB)) (hk.below (hb.mono hB)) (hd.below (hb.mono hB)) hl); have hgp := World.block_lt_of_cell? _ _ h1; have hdp := World.block_lt_of_cell? _ _ h2; have HB := Lib.hid hb; have x0 := (Blk.new w 56 #[.int .i64 n.fact, .slice ac n.cuts.length cc, .slice ak n.kids.length ck, .bool n.leaf]).cell 0; generalize properB d t n = R at *
 clear hg hc hk hd hb; cases R
 all_goals
  go_enter Tryz.func52, Tryz.ntmps52; go_wp2_with (go_at_call 53; refine HC.out.mono ?_; rintro e w3 ⟨rfl, hb3⟩; have HB3 := Lib.hid (HB.out.trans (hb3.mono (by simp))); clear hb3); go_ret; exact ⟨rfl, HB3.out⟩
theorem idxN_any (d : List Fa) (t : List Dn) (ag : Option Addr) (cg : Nat) (ad : Option Addr) (cd : Nat) (gp dp : Nat) (w : World) (B : Nat) (hB : B <= w.heap.size) (hg : DgIn w B t (.agg #[.slice ag t.length cg]))
  (hd : DomIn w B d (.agg #[.slice ad d.length cd])) (hl : ∀ n ∈ t, n.cuts.length <= 1000000) (h1 : w.cell? ⟨gp, 0, none⟩ = some (.slice ag t.length cg)) (h2 : w.cell? ⟨dp, 0, none⟩ = some (.slice ad d.length cd)) :
  Calls Tryz.prog 103 #[.slice ag t.length cg, (.func (.func 52) #[] #[.pointer (some ⟨gp, 0, none⟩), .pointer (some ⟨dp, 0, none⟩)])] w fun e w' => e = .returned (.int .i64 (idxFrom (fun n => !properB d t n) t 0)) /\ Below w.heap.size w w' := by
 have HG := Lib.hid hg; have HD := Lib.hid hd; have HL := Lib.hid hl; have HG2 : Hid (SlIn DnR 4 w B t (.slice ag t.length cg)) := by obtain ⟨_, e, h⟩ := hg; cases e; exact h
 obtain ⟨_, _, e1, l1, l2, _⟩ := HG2.out; obtain ⟨rfl, rfl⟩ : ag = _ /\ cg = _ := by simpa using e1
 unfold maxLen at l2; have HR : Hid (idxFrom (fun n => !properB d t n) t 0 = idxFrom (fun n => !properB d t n) (t.drop 0) (0 : Nat)) := rfl; generalize idxFrom (fun n => !properB d t n) t 0 = R at *
 have hgp := World.block_lt_of_cell? _ _ h1; have hdp := World.block_lt_of_cell? _ _ h2; clear hg hd hl; go_enter Tryz.func103, Tryz.ntmps103; go_wp2
 go_loopw [8] (fun i wr => ∃ k : Nat, k <= t.length /\ i = .int .i64 k /\ Hid (R = idxFrom (fun n => !properB d t n) (t.drop k) k) /\ Hid (Below w.heap.size w wr)) (fun i _ => t.length - (intOf i).toNat)
 case atStart => exact ⟨0, by omega, rfl, HR, Below.refl _ _⟩
 case round =>
  obtain ⟨k, hk, rfl, hin, hb⟩ := hrel; have hsz := hb.out.size; by_cases hlt : k < t.length
  ·have HC := Lib.hid (fun vc vk (q : IntsIn w B t[k].cuts vc) (q' : IntsIn w B t[k].kids vk) => valid1_any d t t[k] _ _ _ _ vc vk gp dp wr B (by omega) (HG.out.below (hb.out.mono hB)) (q.below (hb.out.mono hB)) (q'.below (hb.out.mono hB)) (HD.out.below (hb.out.mono hB)) (HL.out _ (List.getElem_mem _))
    ((hb.out.cell (p := ⟨gp, 0, none⟩) hgp).trans h1) ((hb.out.cell (p := ⟨dp, 0, none⟩) hdp).trans h2))
   obtain ⟨b, o, rfl, hbB, vc, vk, n0, n1, n2, n3, hcu, hki⟩ := HG2.out.at k hlt; have q0 := (hb.out.cell (p := ⟨b, o + k * 4, none⟩) (by show b < w.heap.size; omega)).trans n0; have q1 := (hb.out.cell (p := ⟨b, o + k * 4 + 1, none⟩) (by show b < w.heap.size; omega)).trans n1; have q2 := (hb.out.cell (p := ⟨b, o + k * 4 + 2, none⟩) (by show b < w.heap.size; omega)).trans n2; have q3 := (hb.out.cell (p := ⟨b, o + k * 4 + 3, none⟩) (by show b < w.heap.size; omega)).trans n3; have HC2 := Lib.hid (HC.out vc vk hcu hki); have hin2 := hin.out; rw [idxFrom_drop _ t k hlt] at hin2; obtain ⟨ac, cc, rfl, _⟩ := SlIn.shape hcu; obtain ⟨ak, ck, rfl, _⟩ := SlIn.shape hki; have HIN := Lib.hid hin2; clear n0 n1 n2 n3 hcu hki HC hin2 hin HR; generalize properB d t t[k] = pb at *
   generalize t[k] = x at *
   cases pb with
   | false =>
    have HS := Lib.hid (show (k : Int) = R by rw [HIN.out]; rfl); clear HIN; go_wp2_with (go_at_call 52; refine HC2.out.mono ?_; rintro e w2 ⟨rfl, hb2⟩); go_ret; exact ⟨ret_int HS.out, hb.out.trans (hb2.mono hsz)⟩
   | true =>
    have HS : Hid (R = idxFrom (fun n => !properB d t n) (t.drop (k + 1)) ((k + 1 : Nat) : Int)) := by show _ = _; rw [HIN.out]; rfl
    clear HIN; go_wp2_with (go_at_call 52; refine HC2.out.mono ?_; rintro e w2 ⟨rfl, hb2⟩); go_roundw
    case rel => exact ⟨k + 1, by omega, by go_num, HS, hb.out.trans (hb2.mono hsz)⟩
    case measure => simp [intOf]; omega
  ·have HS := Lib.hid (show (-1 : Int) = R by
    have h0 := hin.out
    rw [List.drop_of_length_le (by omega)] at h0
    exact h0.symm)
   clear hin HR; go_wp2; go_ret; exact ⟨ret_int HS.out, hb.out⟩
theorem hasN_any (d : List Fa) (t : List Dn) (ag : Option Addr) (cg : Nat) (ad : Option Addr) (cd : Nat) (gp dp : Nat) (w : World) (B : Nat) (hB : B <= w.heap.size) (hg : DgIn w B t (.agg #[.slice ag t.length cg]))
  (hd : DomIn w B d (.agg #[.slice ad d.length cd])) (hl : ∀ n ∈ t, n.cuts.length <= 1000000) (h1 : w.cell? ⟨gp, 0, none⟩ = some (.slice ag t.length cg)) (h2 : w.cell? ⟨dp, 0, none⟩ = some (.slice ad d.length cd)) :
  Calls Tryz.prog 54 #[.slice ag t.length cg, (.func (.func 52) #[] #[.pointer (some ⟨gp, 0, none⟩), .pointer (some ⟨dp, 0, none⟩)])] w fun e w' => e = .returned (.bool (!t.all (properB d t))) /\ Below w.heap.size w w' := by
 have HC := Lib.hid (idxN_any d t ag cg ad cd gp dp w B hB hg hd hl h1 h2); have HS := Lib.hid (idx_any_ge (fun n => !properB d t n) t 0); have HA : Hid (t.any (fun n => !properB d t n) = !t.all (properB d t)) := by show _ = _; rw [List.not_all_eq_any_not]
 have e : ((0 : Nat) : Int) = 0 := rfl; rw [e] at HS; clear hg hd hl h1 h2 e; generalize idxFrom (fun n => !properB d t n) t 0 = R at *
 go_enter Tryz.func54, Tryz.ntmps54; go_wp2_with (go_at_call 103; refine HC.out.mono ?_; rintro e w2 ⟨rfl, hb2⟩); go_ret; exact ⟨ret_bool (by rw [HS.out, HA.out]), hb2⟩
end
section
open Go.RowKit
structure VaS (w6 : World) (K : Nat) (t : List Dn) (wr : World) : Prop where
 is : MkIs wr K K [] t
 mks : MkS K [] w6 wr
theorem add_take {t : List Dn} {j : Nat} (h : j < t.length) (hn : t[j] ∉ t.take j) : addD (t.take j) t[j] = (t.take (j + 1), j) := by
 unfold addD; rw [if_neg hn, List.take_succ_eq_append_getElem h, List.length_take]; congr 1
 omega
theorem add_old {t : List Dn} {j : Nat} (h : j < t.length) (hn : t[j] ∈ t.take j) : (addD (t.take j) t[j]).2 < j := by
 unfold addD; rw [if_pos hn]; have := List.idxOf_lt_length_of_mem hn; rw [List.length_take] at this
 show (t.take j).idxOf t[j] < j
 omega
theorem nodup_next {t : List Dn} {j : Nat} (h : j < t.length) (hn : (t.take j).Nodup) (hx : t[j] ∉ t.take j) : (t.take (j + 1)).Nodup := by
 rw [List.take_succ_eq_append_getElem h, List.nodup_append]; exact ⟨hn, by simp, fun a ha b hb e => hx (by rw [List.mem_singleton] at hb; rw [<- hb, <- e]; exact ha)⟩
theorem validG_any (d : List Fa) (t : List Dn) (vg u : Value) (w : World) (B : Nat) (hB : B <= w.heap.size) (hg : DgIn w B t vg) (hd : DomIn w B d u) (h64 : ∀ n ∈ t, Dn64 n) (hT : TabH w.heap.size w) :
  Calls Tryz.prog 15 #[vg, u] w fun e w' => e = .returned (.bool (validG d t)) /\ Below w.heap.size w w' := by
 have HG := Lib.hid hg; have HD := Lib.hid hd; obtain ⟨_, rfl, hg2⟩ := hg; obtain ⟨_, rfl, hd2⟩ := hd; have HG2 := Lib.hid hg2; obtain ⟨ag, cg, rfl, l1, l2, _⟩ := SlIn.shape hg2; obtain ⟨ad, cd, rfl, _⟩ := SlIn.shape hd2; unfold maxLen at l2; have hb2 : Below w.heap.size w ((w.alloc (.cells #[.slice ag t.length cg] 34)).alloc (.cells #[.slice ad d.length cd] 27)) := ((Below.refl _ _).alloc (Nat.le_refl _) _).alloc (by simp) _; have K0 : Blk ((w.alloc (.cells #[.slice ag t.length cg] 34)).alloc (.cells #[.slice ad d.length cd] 27)) w.heap.size 34 #[.slice ag t.length cg] := (Blk.new w 34 #[.slice ag t.length cg]).alloc _
 have K1 : Blk ((w.alloc (.cells #[.slice ag t.length cg] 34)).alloc (.cells #[.slice ad d.length cd] 27)) (w.heap.size + 1) 27 #[.slice ad d.length cd] := by
  have q := Blk.new (w.alloc (.cells #[.slice ag t.length cg] 34)) 27 #[.slice ad d.length cd]
  simpa only [World.size_alloc] using q
 have hs2 : (((w.alloc (.cells #[.slice ag t.length cg] 34)).alloc (.cells #[.slice ad d.length cd] 27))).heap.size = w.heap.size + 2 := by simp
 obtain ⟨W, hW⟩ : ∃ W, ((w.alloc (.cells #[.slice ag t.length cg] 34)).alloc (.cells #[.slice ad d.length cd] 27)) = W := ⟨_, rfl⟩; rw [hW] at hb2 K0 K1 hs2; have HW := Lib.hid hW; have HB2 := Lib.hid hb2; have HK0 := Lib.hid K0; have HK1 := Lib.hid K1; have x0 := K0.cell 0; have y0 := K1.cell 0; have H64 := Lib.hid h64; have HT := Lib.hid hT; have HV := Lib.hid (valid_any d _ W B (by omega) (HD.out.below (hb2.mono hB)))
 have HH : Hid (∀ w', Blk w' w.heap.size 34 #[.slice ag t.length cg] -> Blk w' (w.heap.size + 1) 27 #[.slice ad d.length cd] -> Below w.heap.size w w' ->
   Calls Tryz.prog 54 #[.slice ag t.length cg, (.func (.func 52) #[] #[.pointer (some ⟨w.heap.size, 0, none⟩), .pointer (some ⟨w.heap.size + 1, 0, none⟩)])] w' fun e w'' => e = .returned (.bool (!t.all (properB d t))) /\ Below w'.heap.size w' w'') := fun w' q0 q1 hb =>
  hasN_any d t ag cg ad cd w.heap.size (w.heap.size + 1) w' B (by have := hb.size; omega) (HG.out.below (hb.mono hB)) (HD.out.below (hb.mono hB)) (fun n hn => (h64 n hn).lc) (q0.cell 0) (q1.cell 0)
 obtain ⟨R, hR⟩ : ∃ R, validG d t = R := ⟨_, rfl⟩; rw [hR]; have hR0 : R = (validD d && !t.isEmpty && decide (t.length <= 20000) && t.all (properB d t) && decide t.Nodup && decide (fromD t (visitD t (d.length + 1) [] 0) = t)) := hR.symm; have HR := Lib.hid hR0; clear hg2 hd2 hW hb2 K0 K1 h64 hT hR hR0; go_enter Tryz.func15, Tryz.ntmps15; go_upto_region 1 with (fail); rw [HW.out]; cases e1 : validD d with
 | false =>
  have HS := Lib.hid (show R = false by rw [HR.out, e1]; rfl); rw [e1] at HV; go_wp2_with (go_at_call 13; refine HV.out.mono ?_; rintro e w4 ⟨rfl, hb4⟩; have x0 := (HK0.out.below hb4).cell 0; have HX0 := Lib.hid (HK0.out.below hb4); have HX1 := Lib.hid (HK1.out.below hb4); have HB4 := Lib.hid (HB2.out.trans (hb4.mono (by omega))); have hs4 := hb4.size; clear hb4); go_ret; exact ⟨ret_bool HS.out.symm, HB4.out⟩
 | true =>
  rw [e1] at HV; cases e2 : ((t.length : Int) == 0) with
  | true =>
   have HS := Lib.hid (show R = false by rw [HR.out, e1]; rw [len_zero] at e2; have ht : t = [] := (by simpa using e2); rw [ht]; rfl); go_wp2_with (go_at_call 13; refine HV.out.mono ?_; rintro e w4 ⟨rfl, hb4⟩; have x0 := (HK0.out.below hb4).cell 0; have HX0 := Lib.hid (HK0.out.below hb4); have HX1 := Lib.hid (HK1.out.below hb4); have HB4 := Lib.hid (HB2.out.trans (hb4.mono (by omega))); have hs4 := hb4.size; clear hb4); go_ret; exact ⟨ret_bool HS.out.symm, HB4.out⟩
  | false =>
   cases e3 : decide ((20000 : Int) < (t.length : Int)) with
   | true =>
    have HS := Lib.hid (show R = false by
     have : ¬ t.length <= 20000 := by simp at e3; omega
     rw [HR.out, decide_eq_false this]; simp)
    go_wp2_with (go_at_call 13; refine HV.out.mono ?_; rintro e w4 ⟨rfl, hb4⟩; have x0 := (HK0.out.below hb4).cell 0; have HX0 := Lib.hid (HK0.out.below hb4); have HX1 := Lib.hid (HK1.out.below hb4); have HB4 := Lib.hid (HB2.out.trans (hb4.mono (by omega))); have hs4 := hb4.size; clear hb4); go_ret; exact ⟨ret_bool HS.out.symm, HB4.out⟩
   | false =>
    have hl2 : t.length <= 20000 := by simp at e3; omega
    have hne : t ≠ [] := fun e => by rw [len_zero, e] at e2; simp at e2
    cases e4 : t.all (properB d t) with
    | false =>
     have HS := Lib.hid (show R = false by rw [HR.out, e4]; simp); rw [e4] at HH; clear hne; go_wp2_with (first | (go_at_call 13; refine HV.out.mono ?_; rintro e w4 ⟨rfl, hb4⟩; have x0 := (HK0.out.below hb4).cell 0; have HX0 := Lib.hid (HK0.out.below hb4); have HX1 := Lib.hid (HK1.out.below hb4); have HB4 := Lib.hid (HB2.out.trans (hb4.mono (by omega))); have hs4 := hb4.size; clear hb4) | (go_at_call 54; refine (HH.out _ HX0.out HX1.out HB4.out).mono ?_; rintro e w5 ⟨rfl, hb5⟩; clear x0; have x0 := (HX0.out.below hb5).cell 0; have HY0 := Lib.hid (HX0.out.below hb5); have HB5 := Lib.hid (HB4.out.trans (hb5.mono (by omega))); have hs5 := hb5.size; clear hb5)); go_ret; exact ⟨ret_bool HS.out.symm, HB5.out⟩
    | true =>
     have hTB := (table_iff d t).1 e4; have HTB := Lib.hid hTB; have HDK := Lib.hid (dom_ok e1); have hpos : 0 < t.length := List.length_pos_iff.2 hne
     have HR2 : Hid (R = (decide t.Nodup && decide (fromD t (visitD t (d.length + 1) [] 0) = t))) := by
      show _ = _
      rw [HR.out, e1, e4, decide_eq_true hl2, show t.isEmpty = false by simpa using hne]; rfl
     rw [e4] at HH; clear hne e4 hTB HR; go_upto_region 5 with (first | (go_at_call 13; refine HV.out.mono ?_; rintro e w4 ⟨rfl, hb4⟩; have x0 := (HK0.out.below hb4).cell 0; have HX0 := Lib.hid (HK0.out.below hb4); have HX1 := Lib.hid (HK1.out.below hb4); have HB4 := Lib.hid (HB2.out.trans (hb4.mono (by omega))); have hs4 := hb4.size; clear hb4) | (go_at_call 54; refine (HH.out _ HX0.out HX1.out HB4.out).mono ?_; rintro e w5 ⟨rfl, hb5⟩; clear x0; have x0 := (HX0.out.below hb5).cell 0; have HY0 := Lib.hid (HX0.out.below hb5); have HB5 := Lib.hid (HB4.out.trans (hb5.mono (by omega))); have hs5 := hb5.size; clear hb5)); have hs52 : w.heap.size + 2 <= w5.heap.size := by omega
     have hm0 : MkIs (w5.alloc (.cells #[.slice none 0 0, .map none] 70)) w5.heap.size w5.heap.size [] [] := ⟨Nat.le_refl _, ⟨.slice none 0 0, none, [], Blk.new _ _ _, World.ownsRow_nil _ _ _ _, rfl, by simp, .inl ⟨rfl, rfl⟩⟩, by simp⟩; have hb6 : Below w5.heap.size w5 (w5.alloc (.cells #[.slice none 0 0, .map none] 70)) := (Below.refl _ _).alloc (Nat.le_refl _) _; have hs6 : ((w5.alloc (.cells #[.slice none 0 0, .map none] 70))).heap.size = w5.heap.size + 1 := by simp
     have HY6 := Lib.hid (HY0.out.below hb6); have x6 := HY6.out.cell 0; obtain ⟨w6, hw6⟩ : ∃ w6, (w5.alloc (.cells #[.slice none 0 0, .map none] 70)) = w6 := ⟨_, rfl⟩; rw [hw6] at hm0 hb6 hs6 HY6 x6; have HB6 := Lib.hid (HB5.out.trans (hb6.mono (by omega))); have HTK : Hid (TabH w5.heap.size w6) := fun w' hb => HT.out w' (HB6.out.trans (hb.mono (by omega)))
     have HV0 : Hid (VaS w6 w5.heap.size (t.take 0) w6) := ⟨hm0, MkS.refl _ _ _⟩; have HND0 : Hid ((t.take 0).Nodup) := by show List.Nodup _; simp
     have HW6 := Lib.hid hw6; clear hm0 hb6 hw6 x0; rw [HW6.out]; go_wp2
     go_loopw [38] (fun iv wr => ∃ j : Nat, j <= t.length /\ iv = .int .i64 j /\ Hid (VaS w6 w5.heap.size (t.take j) wr) /\ Hid ((t.take j).Nodup)) (fun iv _ => t.length - (intOf iv).toNat)
     case atStart => exact ⟨0, by omega, rfl, HV0, HND0⟩
     case round =>
      obtain ⟨j, hj, rfl, hv, hnd⟩ := hrel; clear HV0 HND0 x6; have hsr := hv.out.mks.size; have hb6r := hv.out.mks.below (by omega); have HBR : Hid (Below w.heap.size w wr) := HB6.out.trans (hb6r.mono (by omega)); by_cases hlt : j < t.length
      ·obtain ⟨b, o, rfl, hbB, vc, vk, n0, n1, n2, n3, hcu, hki⟩ := HG2.out.at j hlt
       have q0 := (HBR.out.cell (p := ⟨b, o + j * 4, none⟩) (by show b < w.heap.size; omega)).trans n0; have q1 := (HBR.out.cell (p := ⟨b, o + j * 4 + 1, none⟩) (by show b < w.heap.size; omega)).trans n1; have q2 := (HBR.out.cell (p := ⟨b, o + j * 4 + 2, none⟩) (by show b < w.heap.size; omega)).trans n2; have q3 := (HBR.out.cell (p := ⟨b, o + j * 4 + 3, none⟩) (by show b < w.heap.size; omega)).trans n3; have hmt : MkS w5.heap.size [] w6 (wr.alloc (.cells #[.int .i64 t[j].fact, vc, vk, .bool t[j].leaf] 56)) := hv.out.mks.alloc _; have hba : Below wr.heap.size wr (wr.alloc (.cells #[.int .i64 t[j].fact, vc, vk, .bool t[j].leaf] 56)) := (Below.refl _ _).alloc (Nat.le_refl _) _
       have hnode := node_any w5.heap.size w5.heap.size [] (t.take j) t[j] vc vk _ (hv.out.is.below hba (Nat.le_refl _)) (IntsF.old (hcu.below (HB6.out.mono hB)) (by omega) (by omega) hmt) (IntsF.old (hki.below (HB6.out.mono hB)) (by omega) (by omega) hmt)
        (by rw [List.length_take]; omega) (H64.out _ (List.getElem_mem _)) (HTK.out.on (hmt.below (by omega)))
       have HN := Lib.hid hnode; have HMT := Lib.hid hmt; obtain ⟨ac, cc, rfl, _⟩ := SlIn.shape hcu; obtain ⟨ak, ck, rfl, _⟩ := SlIn.shape hki; clear n0 n1 n2 n3 hcu hki hnode hmt hba; by_cases hx : t[j] ∈ t.take j
       ·have hq := add_old hlt hx
        have HS := Lib.hid (show R = false by
         have : ¬ t.Nodup := fun hn => by
          have h2 := hn.sublist (List.take_sublist (j + 1) t)
          rw [List.take_succ_eq_append_getElem hlt, List.nodup_append] at h2
          exact h2.2.2 _ hx t[j] (by simp) rfl
         rw [HR2.out, decide_eq_false this]; rfl)
        clear hx; generalize addD (t.take j) t[j] = A at *
        generalize t[j] = x at *
        have hne : ((A.2 : Int) != (j : Int)) = true := by rw [bne_iff_ne]; omega
        go_wp2_with (go_at_call 40; refine HN.out.mono ?_; rintro e w7 ⟨rfl, h1, h2⟩; have HB7 := Lib.hid (h2.s.below (by have := HMT.out.size; omega)); clear h1 h2); go_ret; exact ⟨ret_bool HS.out.symm, HBR.out.trans (((Below.refl _ _).alloc (by omega) _).trans (HB7.out.mono (by omega)))⟩
       ·have hq := add_take hlt hx
        rw [hq] at HN; have HND := Lib.hid (nodup_next hlt hnd.out hx); clear hx hq; generalize t[j] = x at *
        have hne : ((j : Int) != (j : Int)) = false := by simp
        go_wp2_with (go_at_call 40; refine HN.out.mono ?_; rintro e w7 ⟨rfl, h1, h2⟩; have HV7 : Hid (VaS w6 w5.heap.size (t.take (j + 1)) w7) := ⟨h1, HMT.out.trans h2.s⟩; clear h1 h2); go_roundw
        case rel => exact ⟨j + 1, by omega, by go_num, HV7, HND⟩
        case measure => simp [intOf]; omega
      ·have hje : j = t.length := by omega
       have hmi := hv.out.is; have hndt := hnd.out; rw [hje, List.take_length] at hmi hndt; have HS : Hid (R = decide (fromD t (visitD t (d.length + 1) [] 0) = t)) := by show _ = _; rw [HR2.out, decide_eq_true hndt]; rfl
       have hfr := from_any t w5.heap.size w5.heap.size [] 0 wr hmi HTB.out hpos hl2 (fun n hn => by have := (table_few HDK.out HTB.out n hn).1; omega); rw [show ((0 : Nat) : Int) = 0 from rfl] at hfr
       have HFR : Hid (Calls Tryz.prog 47 #[.pointer (some ⟨w5.heap.size, 0, none⟩), .int .i64 0] wr fun e W' => ∃ (au : Option Addr) (cu : Nat), e = .returned (.tuple #[.agg #[.slice au (fromD t (visitD t (d.length + 1) [] 0)).length cu], .int .i64 0]) /\ Hid (DgIn W' W'.heap.size (fromD t (visitD t (d.length + 1) [] 0)) (.agg #[.slice au (fromD t (visitD t (d.length + 1) [] 0)).length cu])) /\ Hid (Below wr.heap.size wr W')) := by
        refine hfr.mono ?_; rintro e W' ⟨_, rfl, ⟨u, rfl, h1⟩, h2⟩; obtain ⟨au, cu, rfl, _⟩ := SlIn.shape h1; exact ⟨au, cu, rfl, ⟨_, rfl, h1⟩, h2⟩
       have HSM : Hid (∀ W' au cu, Hid (DgIn W' W'.heap.size (fromD t (visitD t (d.length + 1) [] 0)) (.agg #[.slice au (fromD t (visitD t (d.length + 1) [] 0)).length cu])) -> Hid (Below wr.heap.size wr W') -> Calls Tryz.prog 31 #[.agg #[.slice au (fromD t (visitD t (d.length + 1) [] 0)).length cu], .agg #[.slice ag t.length cg]] (W'.alloc (.cells #[.slice au (fromD t (visitD t (d.length + 1) [] 0)).length cu] 34)) fun e w' => e = .returned (.bool R) /\ Below W'.heap.size W' w') := by
        intro W' au cu h1 h2; have hz := h2.out.size; have hbx : Below W'.heap.size W' (W'.alloc (.cells #[.slice au (fromD t (visitD t (d.length + 1) [] 0)).length cu] 34)) := (Below.refl _ _).alloc (Nat.le_refl _) _; have q := sameD_any (fromD t (visitD t (d.length + 1) [] 0)) t _ _ _ W'.heap.size (by simp) (h1.out.below hbx) (((HG.out.below ((HBR.out.trans (h2.out.mono (by omega))).mono hB)).mono (B' := W'.heap.size) (by omega)).below hbx); rw [<- HS.out] at q; refine q.mono ?_; rintro e w' ⟨rfl, h3⟩; exact ⟨rfl, hbx.trans (h3.mono (by simp))⟩
       have HYR : Hid (Blk wr w.heap.size 34 #[.slice ag t.length cg]) := (hb6r.block w.heap.size (by omega)).trans HY6.out; generalize fromD t (visitD t (d.length + 1) [] 0) = ft at *
       clear hmi hndt hfr hje HS HR2 hb6r
       go_wp2_with (first
        | (go_at_call 47; refine HFR.out.mono ?_; rintro e w8 ⟨au, cu, rfl, HU8, HB8⟩; have y8 := ((HYR.out.below HB8.out).alloc (.cells #[.slice au ft.length cu] 34)).cell 0; have hs8 := HB8.out.size; have hsy := (HYR.out.below HB8.out).lt)
        | (go_at_call 31; refine (HSM.out _ _ _ HU8 HB8).mono ?_; rintro e w9 ⟨rfl, hb9⟩))
       go_ret; exact ⟨rfl, HBR.out.trans ((HB8.out.trans (hb9.mono (by omega))).mono (by omega))⟩
end
section
open Go.RowKit
theorem idx_find {α : Type} (p : α -> Bool) : ∀ (l : List α) (k : Nat), idxFrom p l (k : Int) = if l.any p then ((k + l.findIdx p : Nat) : Int) else -1
 | [], k => by simp [idxFrom]
 | x :: l, k => by
  rw [idxFrom, List.any_cons, List.findIdx_cons]; cases h : p x with
  | true => simp
  | false =>
   rw [if_neg (by simp), Bool.false_or]; have ih := idx_find p l (k + 1); have e : ((k + 1 : Nat) : Int) = (k : Int) + 1 := rfl; rw [<- e, ih]
   split
   ·simp only [cond_false]
    congr 1
    omega
   ·rfl
theorem idxI_any (g : Nat) (lb : Array Value) (eg : ∀ args w, (callFunc g args).run Tryz.prog w = .ok (.enter g args) w) (p : Int -> Bool) (l : List Int) (v : Value) (w : World) (B : Nat) (hB : B <= w.heap.size) (hl : IntsIn w B l v)
  (hp : ∀ x ∈ l, ∀ W, Below w.heap.size w W -> Calls Tryz.prog g (#[.int .i64 x] ++ lb) W fun e W' => e = .returned (.bool (p x)) /\ Below W.heap.size W W') :
  Calls Tryz.prog 63 #[v, .func (.func g) #[] lb] w fun e w' => e = .returned (.int .i64 (idxFrom p l 0)) /\ Below w.heap.size w w' := by
 have HL := Lib.hid hl; have HP := Lib.hid hp; obtain ⟨al, cl, rfl, l1, l2, _⟩ := SlIn.shape hl; unfold maxLen at l2; have HR : Hid (idxFrom p l 0 = idxFrom p (l.drop 0) (0 : Nat)) := rfl; generalize idxFrom p l 0 = R at *
 clear hl hp; go_enter Tryz.func63, Tryz.ntmps63; go_wp2
 go_loopw [8] (fun i wr => ∃ k : Nat, k <= l.length /\ i = .int .i64 k /\ Hid (R = idxFrom p (l.drop k) k) /\ Hid (Below w.heap.size w wr)) (fun i _ => l.length - (intOf i).toNat)
 case atStart => exact ⟨0, by omega, rfl, HR, Below.refl _ _⟩
 case round =>
  obtain ⟨k, hk, rfl, hin, hb⟩ := hrel; have hsz := hb.out.size; by_cases hlt : k < l.length
  ·obtain ⟨b, o, rfl, hbB, hc⟩ := SlIn.one HL.out k hlt
   have q0 := (hb.out.cell (p := ⟨b, o + k, none⟩) (by show b < w.heap.size; omega)).trans hc; have hin2 := hin.out; rw [idxFrom_drop _ l k hlt] at hin2; have HC := Lib.hid (HP.out l[k] (List.getElem_mem _) wr hb.out); have HIN := Lib.hid hin2; clear hc hin2 hin HR; generalize l[k] = x at *
   generalize p x = pb at *
   cases pb with
   | true =>
    have HS := Lib.hid (show (k : Int) = R by rw [HIN.out]; rfl); clear HIN; go_wp2_with (go_at_fn g; refine HC.out.mono ?_; rintro e w2 ⟨rfl, hb2⟩); go_ret; exact ⟨ret_int HS.out, hb.out.trans (hb2.mono hsz)⟩
   | false =>
    have HS : Hid (R = idxFrom p (l.drop (k + 1)) ((k + 1 : Nat) : Int)) := by show _ = _; rw [HIN.out]; rfl
    clear HIN; go_wp2_with (go_at_fn g; refine HC.out.mono ?_; rintro e w2 ⟨rfl, hb2⟩); go_roundw
    case rel => exact ⟨k + 1, by omega, by go_num, HS, hb.out.trans (hb2.mono hsz)⟩
    case measure => simp [intOf]; omega
  ·have HS := Lib.hid (show (-1 : Int) = R by
    have h0 := hin.out
    rw [List.drop_of_length_le (by omega)] at h0
    exact h0.symm)
   clear hin HR; go_wp2; go_ret; exact ⟨ret_int HS.out, hb.out⟩
theorem next1_any (c v : Int) (b : Nat) (w : World) (hc : w.cell? ⟨b, 0, none⟩ = some (.int .i64 v)) :
  Calls Tryz.prog 104 #[.int .i64 c, .pointer (some ⟨b, 0, none⟩)] w fun e w' => e = .returned (.bool (decide (v < c))) /\ Below w.heap.size w w' := by
 go_enter Tryz.func104, Tryz.ntmps104; go_wp2; go_ret; exact ⟨rfl, Below.refl _ _⟩
def nextG (n : Dn) (v : Int) : Int := if n.cuts.any (fun c => decide (v < c)) then (nextI n.cuts v : Int) else (n.kids.length : Int) - 1
theorem next_any (n : Dn) (v : Int) (vc vk : Value) (w : World) (B : Nat) (hB : B <= w.heap.size) (hc : IntsIn w B n.cuts vc) (hk : IntsIn w B n.kids vk) :
  Calls Tryz.prog 55 #[.agg #[.int .i64 n.fact, vc, vk, .bool n.leaf], .int .i64 v] w fun e w' => e = .returned (.int .i64 (nextG n v)) /\ Below w.heap.size w w' := by
 obtain ⟨ac, cc, rfl, _⟩ := SlIn.shape hc; obtain ⟨ak, ck, rfl, k1, k2, _⟩ := SlIn.shape hk; unfold maxLen at k2; have hb2 : Below w.heap.size w ((w.alloc (.cells #[.int .i64 n.fact, .slice ac n.cuts.length cc, .slice ak n.kids.length ck, .bool n.leaf] 56)).alloc (.cells #[.int .i64 v] 3)) := ((Below.refl _ _).alloc (Nat.le_refl _) _).alloc (by simp) _; have K0 : Blk ((w.alloc (.cells #[.int .i64 n.fact, .slice ac n.cuts.length cc, .slice ak n.kids.length ck, .bool n.leaf] 56)).alloc (.cells #[.int .i64 v] 3)) w.heap.size 56 #[.int .i64 n.fact, .slice ac n.cuts.length cc, .slice ak n.kids.length ck, .bool n.leaf] := (Blk.new w 56 #[.int .i64 n.fact, .slice ac n.cuts.length cc, .slice ak n.kids.length ck, .bool n.leaf]).alloc _
 have K1 : Blk ((w.alloc (.cells #[.int .i64 n.fact, .slice ac n.cuts.length cc, .slice ak n.kids.length ck, .bool n.leaf] 56)).alloc (.cells #[.int .i64 v] 3)) (w.heap.size + 1) 3 #[.int .i64 v] := by
  have q := Blk.new (w.alloc (.cells #[.int .i64 n.fact, .slice ac n.cuts.length cc, .slice ak n.kids.length ck, .bool n.leaf] 56)) 3 #[.int .i64 v]
  simpa only [World.size_alloc] using q
 have hs2 : (((w.alloc (.cells #[.int .i64 n.fact, .slice ac n.cuts.length cc, .slice ak n.kids.length ck, .bool n.leaf] 56)).alloc (.cells #[.int .i64 v] 3))).heap.size = w.heap.size + 2 := by simp
 obtain ⟨W, hW⟩ : ∃ W, ((w.alloc (.cells #[.int .i64 n.fact, .slice ac n.cuts.length cc, .slice ak n.kids.length ck, .bool n.leaf] 56)).alloc (.cells #[.int .i64 v] 3)) = W := ⟨_, rfl⟩; rw [hW] at hb2 K0 K1 hs2; have HW := Lib.hid hW; have HK0 := Lib.hid K0; have HK1 := Lib.hid K1; have HB2 := Lib.hid hb2; have x1 := K0.cell 1
 have hI := idxI_any 104 #[.pointer (some ⟨w.heap.size + 1, 0, none⟩)] (enters_of Tryz.func104 (by kernel_rfl) rfl) (fun c => decide (v < c)) n.cuts _ W B (by omega) (hc.below (hb2.mono hB))
  (fun x _ W' hb => next1_any x v (w.heap.size + 1) W' ((K1.below hb).cell 0))
 have hfi := idx_find (fun c => decide (v < c)) n.cuts 0; rw [Nat.zero_add, show ((0 : Nat) : Int) = 0 from rfl] at hfi; rw [hfi] at hI; have HI := Lib.hid hI; have HG : Hid (nextG n v = if n.cuts.any (fun c => decide (v < c)) then ((n.cuts.findIdx fun c => decide (v < c) : Nat) : Int) else (n.kids.length : Int) - 1) := rfl; generalize nextG n v = R at *
 clear hc hk hW hb2 K0 K1 hI hfi; generalize (n.cuts.findIdx fun c => decide (v < c)) = fi at *
 generalize n.cuts.any (fun c => decide (v < c)) = an at *
 have f0 : (0 : Int) <= (fi : Int) := Int.natCast_nonneg _; cases an with
 | true =>
  have HS := Lib.hid (show (fi : Int) = R by rw [HG.out]; rfl); have hlt : decide ((fi : Int) < 0) = false := by simp
  clear HG; go_enter Tryz.func55, Tryz.ntmps55; go_upto_region 1 with (fail); rw [HW.out]; go_wp2_with (go_at_call 63; refine HI.out.mono ?_; rintro e w3 ⟨rfl, hb3⟩); go_ret; exact ⟨ret_int HS.out, HB2.out.trans (hb3.mono (by omega))⟩
 | false =>
  have HS := Lib.hid (show (n.kids.length : Int) - 1 = R by rw [HG.out]; rfl); have hwr : IntKind.i64.wrap ((n.kids.length : Int) - 1) = (n.kids.length : Int) - 1 := IntWalk.i64_in _ (by omega); clear HG; go_enter Tryz.func55, Tryz.ntmps55; go_upto_region 1 with (fail); rw [HW.out]; go_wp2_with (go_at_call 63; refine HI.out.mono ?_; rintro e w3 ⟨rfl, hb3⟩; have x2 := (HK0.out.below hb3).cell 2); go_ret; exact ⟨ret_int HS.out, HB2.out.trans (hb3.mono (by omega))⟩
end
section
open Go.RowKit
def walkG (t : List Dn) (c : List Int) : Nat -> Int -> Bool
 | 0, _ => false
 | f + 1, a =>
  if a < 0 \/ (t.length : Int) <= a then false
  else if (t.getD a.toNat default).kids = [] then (t.getD a.toNat default).leaf
  else if (t.getD a.toNat default).fact < 0 \/ (c.length : Int) <= (t.getD a.toNat default).fact then false
  else if ((t.getD a.toNat default).kids.length : Int) <= nextG (t.getD a.toNat default) (c.getD (t.getD a.toNat default).fact.toNat 0) then false
  else walkG t c f ((t.getD a.toNat default).kids.getD (nextG (t.getD a.toNat default) (c.getD (t.getD a.toNat default).fact.toNat 0)).toNat 0)
theorem nextG_ge {n : Dn} (h : n.kids ≠ []) (v : Int) : 0 <= nextG n v := by
 unfold nextG; have : 0 < n.kids.length := List.length_pos_iff.2 h
 split <;> omega
theorem nextG_eq {n : Dn} (h : n.kids.length = n.cuts.length + 1) (v : Int) : nextG n v = (nextI n.cuts v : Int) := by
 unfold nextG
 split
 ·rfl
 ·next hn =>
  have : nextI n.cuts v = n.cuts.length := by
   unfold nextI; rw [List.findIdx_eq_length]; intro x hx; cases hd : decide (v < x) with
   | false => rfl
   | true => exact absurd (List.any_eq_true.2 ⟨x, hx, hd⟩) hn
  rw [this, h]; omega
theorem holdsG_any (t : List Dn) (c : List Int) (vg u : Value) (w : World) (B : Nat) (hB : B <= w.heap.size) (hg : DgIn w B t vg) (hc : IntsIn w B c u) :
  Calls Tryz.prog 17 #[vg, u] w fun e w' => e = .returned (.bool (walkG t c t.length 0)) /\ Below w.heap.size w w' := by
 have HC := Lib.hid hc; obtain ⟨_, rfl, hg2⟩ := hg; have HG2 := Lib.hid hg2; obtain ⟨ag, cg, rfl, l1, l2, _⟩ := SlIn.shape hg2; obtain ⟨ac, cc, rfl, m1, m2, _⟩ := SlIn.shape hc; unfold maxLen at l2 m2; obtain ⟨R, hR⟩ : ∃ R, walkG t c t.length 0 = R := ⟨_, rfl⟩; rw [hR]; have HR : Hid (R = walkG t c (t.length - 0) 0) := hR.symm; clear hR; have HB1 : Hid (Below w.heap.size w (w.alloc (.cells #[.slice ag t.length cg] 34))) := (Below.refl _ _).alloc (Nat.le_refl _) _; have HK1 : Hid (Blk (w.alloc (.cells #[.slice ag t.length cg] 34)) w.heap.size 34 #[.slice ag t.length cg]) := Blk.new _ _ _; have hs1 : (w.alloc (.cells #[.slice ag t.length cg] 34)).heap.size = w.heap.size + 1 := by simp
 obtain ⟨W, hW⟩ : ∃ W, (w.alloc (.cells #[.slice ag t.length cg] 34)) = W := ⟨_, rfl⟩; rw [hW] at HB1 HK1 hs1; have HW := Lib.hid hW; have x0 := HK1.out.cell 0; clear hg2 hc hW; go_enter Tryz.func17, Tryz.ntmps17; go_upto_region 1 with (fail); rw [HW.out]; go_wp2
 go_loopw [5, 11] (fun av iv wr => ∃ (j : Nat) (a : Int), j <= t.length /\ iv = .int .i64 j /\ av = .int .i64 a /\ Hid (R = walkG t c (t.length - j) a) /\ Hid (Below W.heap.size W wr)) (fun _ iv _ => t.length - (intOf iv).toNat)
 case atStart => exact ⟨0, 0, by omega, rfl, rfl, HR, Below.refl _ _⟩
 case round =>
  obtain ⟨j, a, hj, rfl, rfl, hin, hb⟩ := hrel; have hsz := hb.out.size; have HBR : Hid (Below w.heap.size w wr) := HB1.out.trans (hb.out.mono (by omega)); clear x0 HR; have x0 := (HK1.out.below hb.out).cell 0; by_cases hlt : j < t.length
  ·have hf : t.length - j = (t.length - (j + 1)) + 1 := by omega
   have hin2 := hin.out; rw [hf, walkG] at hin2; clear hf; by_cases g1 : a < 0
   ·have g1d : decide (a < 0) = true := by simpa using g1
    have HS := Lib.hid (show R = false by rw [hin2, if_pos (.inl g1)]); clear hin hin2 g1; go_wp2; go_ret; exact ⟨ret_bool HS.out.symm, HBR.out⟩
   ·have g1d : decide (a < 0) = false := by simpa using g1
    by_cases g2 : (t.length : Int) <= a
    ·have g2d : decide ((t.length : Int) <= a) = true := by simpa using g2
     have HS := Lib.hid (show R = false by rw [hin2, if_pos (.inr g2)]); clear hin hin2 g2; go_wp2; go_ret; exact ⟨ret_bool HS.out.symm, HBR.out⟩
    ·have g2d : decide ((t.length : Int) <= a) = false := by simpa using g2
     have ha0 : 0 <= a := by omega
     have ha1 : a < (t.length : Int) := by omega
     have hat : a.toNat < t.length := by omega
     rw [if_neg (by omega), getD_dg _ _ _ hat] at hin2; obtain ⟨b, o, rfl, hbB, vc, vk, n0, n1, n2, n3, hcu, hki⟩ := HG2.out.at a.toNat hat; have q0 := (HBR.out.cell (p := ⟨b, o + a.toNat * 4, none⟩) (by show b < w.heap.size; omega)).trans n0; have q1 := (HBR.out.cell (p := ⟨b, o + a.toNat * 4 + 1, none⟩) (by show b < w.heap.size; omega)).trans n1; have q2 := (HBR.out.cell (p := ⟨b, o + a.toNat * 4 + 2, none⟩) (by show b < w.heap.size; omega)).trans n2; have q3 := (HBR.out.cell (p := ⟨b, o + a.toNat * 4 + 3, none⟩) (by show b < w.heap.size; omega)).trans n3; have HIN := Lib.hid hin2; generalize t[a.toNat] = x at *
     have HCU := Lib.hid hcu; have HKI := Lib.hid hki; obtain ⟨xa, xc, rfl, _⟩ := SlIn.shape hcu; obtain ⟨ya, yc, rfl, y1, y2, _⟩ := SlIn.shape hki; unfold maxLen at y2; clear n0 n1 n2 n3 hcu hki hin hin2 g1 g2; have hb1 : Below wr.heap.size wr (wr.alloc (.cells #[.int .i64 x.fact, .slice xa x.cuts.length xc, .slice ya x.kids.length yc, .bool x.leaf] 56)) := (Below.refl _ _).alloc (Nat.le_refl _) _; have HX := Lib.hid (Blk.new wr 56 #[.int .i64 x.fact, .slice xa x.cuts.length xc, .slice ya x.kids.length yc, .bool x.leaf]); have p0 := HX.out.cell 0; have p1 := HX.out.cell 1; have p2 := HX.out.cell 2; have p3 := HX.out.cell 3; cases e1 : ((x.kids.length : Int) == 0) with
     | true =>
      have hke : x.kids = [] := by rw [len_zero] at e1; simpa using e1
      have HS := Lib.hid (show R = x.leaf by rw [HIN.out, if_pos hke]); clear HIN hke; go_wp2; go_ret; exact ⟨ret_bool HS.out.symm, HBR.out.trans (hb1.mono (by omega))⟩
     | false =>
      have hke : x.kids ≠ [] := fun e => by rw [len_zero, e] at e1; simp at e1
      have HI1 := HIN.out; rw [if_neg hke] at HI1; clear HIN; by_cases g3 : x.fact < 0
      ·have g3d : decide (x.fact < 0) = true := by simpa using g3
       have HS := Lib.hid (show R = false by rw [HI1, if_pos (.inl g3)]); clear HI1 g3 hke; go_wp2; go_ret; exact ⟨ret_bool HS.out.symm, HBR.out.trans (hb1.mono (by omega))⟩
      ·have g3d : decide (x.fact < 0) = false := by simpa using g3
       by_cases g4 : (c.length : Int) <= x.fact
       ·have g4d : decide ((c.length : Int) <= x.fact) = true := by simpa using g4
        have HS := Lib.hid (show R = false by rw [HI1, if_pos (.inr g4)]); clear HI1 g4 hke; go_wp2; go_ret; exact ⟨ret_bool HS.out.symm, HBR.out.trans (hb1.mono (by omega))⟩
       ·have g4d : decide ((c.length : Int) <= x.fact) = false := by simpa using g4
        have hf0 : 0 <= x.fact := by omega
        have hf1 : x.fact < (c.length : Int) := by omega
        have hfc : x.fact.toNat < c.length := by omega
        rw [if_neg (by omega), getD_dg _ _ _ hfc] at HI1; obtain ⟨kb, ko, rfl, hkB, hkc⟩ := SlIn.one HC.out x.fact.toNat hfc; have hk2 := ((HBR.out.trans (hb1.mono (by omega))).cell (p := ⟨kb, ko + x.fact.toNat, none⟩) (by show kb < w.heap.size; omega)).trans hkc; have hge := nextG_ge hke c[x.fact.toNat]; have hnx := next_any x c[x.fact.toNat] (.slice xa x.cuts.length xc) (.slice ya x.kids.length yc); generalize c[x.fact.toNat] = cv at *
        have HN : Hid (∀ W', Hid (Below (wr.heap.size + 1) (wr.alloc (.cells #[.int .i64 x.fact, .slice xa x.cuts.length xc, .slice ya x.kids.length yc, .bool x.leaf] 56)) W') -> Calls Tryz.prog 55 #[.agg #[.int .i64 x.fact, .slice xa x.cuts.length xc, .slice ya x.kids.length yc, .bool x.leaf], .int .i64 cv] W' fun e w' => e = .returned (.int .i64 (nextG x cv)) /\ Hid (Below W'.heap.size W' w')) := fun W' hw =>
         hnx W' B (by have := hw.out.size; simp at this; omega) (IntsIn.below ((HBR.out.trans ((hb1.trans (hw.out.mono (by omega))).mono (by omega))).mono hB) HCU.out) (IntsIn.below ((HBR.out.trans ((hb1.trans (hw.out.mono (by omega))).mono (by omega))).mono hB) HKI.out)
        have HKP : Hid (∀ w', Hid (Below (wr.heap.size + 1) (wr.alloc (.cells #[.int .i64 x.fact, .slice xa x.cuts.length xc, .slice ya x.kids.length yc, .bool x.leaf] 56)) w') -> (w'.cell? ⟨wr.heap.size, 0, none⟩ = some (.int .i64 x.fact) /\ w'.cell? ⟨wr.heap.size, 1, none⟩ = some (.slice xa x.cuts.length xc) /\ w'.cell? ⟨wr.heap.size, 2, none⟩ = some (.slice ya x.kids.length yc) /\ w'.cell? ⟨wr.heap.size, 3, none⟩ = some (.bool x.leaf) /\ w'.cell? ⟨kb, ko + x.fact.toNat, none⟩ = some (.int .i64 cv)) /\ Hid (Below (wr.heap.size + 1) (wr.alloc (.cells #[.int .i64 x.fact, .slice xa x.cuts.length xc, .slice ya x.kids.length yc, .bool x.leaf] 56)) w')) := by
         intro w' hw; have z := HX.out.below (by rw [World.size_alloc]; exact hw.out); exact ⟨⟨z.cell 0, z.cell 1, z.cell 2, z.cell 3, (hw.out.cell (p := ⟨kb, ko + x.fact.toNat, none⟩) (by show kb < wr.heap.size + 1; omega)).trans hk2⟩, hw⟩
        have HW0 : Hid (Below (wr.heap.size + 1) (wr.alloc (.cells #[.int .i64 x.fact, .slice xa x.cuts.length xc, .slice ya x.kids.length yc, .bool x.leaf] 56)) ((wr.alloc (.cells #[.int .i64 x.fact, .slice xa x.cuts.length xc, .slice ya x.kids.length yc, .bool x.leaf] 56))).drew) := (Below.refl _ _).drew; generalize nextG x cv = kx at *
        clear hnx hkc g3 g4; go_upto_region 11 with (fail)
        go_region_held3 (fun w' => (w'.cell? ⟨wr.heap.size, 0, none⟩ = some (.int .i64 x.fact) /\ w'.cell? ⟨wr.heap.size, 1, none⟩ = some (.slice xa x.cuts.length xc) /\ w'.cell? ⟨wr.heap.size, 2, none⟩ = some (.slice ya x.kids.length yc) /\ w'.cell? ⟨wr.heap.size, 3, none⟩ = some (.bool x.leaf) /\ w'.cell? ⟨kb, ko + x.fact.toNat, none⟩ = some (.int .i64 cv)) /\ Hid (Below (wr.heap.size + 1) (wr.alloc (.cells #[.int .i64 x.fact, .slice xa x.cuts.length xc, .slice ya x.kids.length yc, .bool x.leaf] 56)) w'))
         (exact HKP.out _ (by assumption))
         ((go_at_call 55; refine (HN.out _ (by assumption)).mono ?_; rintro e w8 ⟨rfl, HB8⟩; have HW8 : Hid (Below (wr.heap.size + 1) (wr.alloc (.cells #[.int .i64 x.fact, .slice xa x.cuts.length xc, .slice ya x.kids.length yc, .bool x.leaf] 56)) w8) := HW0.out.trans (HB8.out.mono (by simp))))
        clear p0 p1 p2 p3 hk2 HKP HN HW0; go_split_ands; have hs8 := HW8.out.size; simp only [World.size_alloc] at hs8; have HBW : Hid (Below W.heap.size W w8) := hb.out.trans ((hb1.trans (HW8.out.mono (by omega))).mono hsz); by_cases g5 : (x.kids.length : Int) <= kx
        ·have g5d : decide ((x.kids.length : Int) <= kx) = true := by simpa using g5
         have HS := Lib.hid (show R = false by rw [HI1, if_pos g5]); clear HI1 g5 hke; go_wp2; go_ret; exact ⟨ret_bool HS.out.symm, HB1.out.trans (HBW.out.mono (by omega))⟩
        ·have g5d : decide ((x.kids.length : Int) <= kx) = false := by simpa using g5
         have hx1 : kx < (x.kids.length : Int) := by omega
         have hx2 : kx.toNat < x.kids.length := by omega
         rw [if_neg g5, getD_dg _ _ _ hx2] at HI1; obtain ⟨jb, jo, hja, hjB, hjc⟩ := SlIn.one HKI.out kx.toNat hx2; subst hja; have hj2 := ((HB1.out.trans (HBW.out.mono (by omega))).cell (p := ⟨jb, jo + kx.toNat, none⟩) (by show jb < w.heap.size; omega)).trans hjc; generalize x.kids[kx.toNat] = av at *
         have HS := Lib.hid HI1; clear HI1 g5 hke hjc; go_wp2; go_roundw
         case rel => exact ⟨j + 1, av, by omega, by go_num, rfl, HS, HBW⟩
         case measure => simp [intOf]; omega
  ·have HS := Lib.hid (show R = false by
    have h := hin.out
    rw [show t.length - j = 0 by omega] at h
    exact h)
   clear hin; go_wp2; go_ret; exact ⟨ret_bool HS.out.symm, HBR.out⟩
end
section
open Go.RowKit
theorem cell_one_dg {w : World} {x : Value} {t : TypeId} : ∀ j u, [x][j]? = some u -> (w.alloc (.cells #[x] t)).cell? ((⟨w.heap.size, 0, none⟩ : Addr).add j) = some u := by
 intro j u hj
 match j, hj with
 | 0, hj =>
  simp at hj; subst hj; exact (Blk.new w t #[x]).cell 0
theorem fleast_any (d : List Fa) (v : Value) (w : World) (B : Nat) (hB : B <= w.heap.size) (hd : DomIn w B d v) (hv : validD d = true) :
  Calls Tryz.prog 62 #[v] w fun e w' => ∃ u, e = .returned u /\ w'.ownsRow w.heap.size 3 1 u (d.map Fa.lo).length ((d.map Fa.lo).map iW) /\ Below w.heap.size w w' := by
 have HD := Lib.hid hd; have hdl := (dom_ok hv).len; obtain ⟨_, rfl, hd2⟩ := hd; have HD2 := Lib.hid hd2; obtain ⟨ad, cd, rfl, l1, l2, _⟩ := SlIn.shape hd2; unfold maxLen at l2; have HB1 : Hid (Below w.heap.size w (w.alloc (.cells #[.slice ad d.length cd] 27))) := (Below.refl _ _).alloc (Nat.le_refl _) _; have HK1 : Hid (Blk (w.alloc (.cells #[.slice ad d.length cd] 27)) w.heap.size 27 #[.slice ad d.length cd]) := Blk.new _ _ _; have hs1 : (w.alloc (.cells #[.slice ad d.length cd] 27)).heap.size = w.heap.size + 1 := by simp
 obtain ⟨W, hW⟩ : ∃ W, (w.alloc (.cells #[.slice ad d.length cd] 27)) = W := ⟨_, rfl⟩; rw [hW] at HB1 HK1 hs1; have hva := valid_any d _ W B (by omega) (HD.out.below (HB1.out.mono hB)); rw [hv] at hva; have HV := Lib.hid hva; have HW := Lib.hid hW; have x0 := HK1.out.cell 0; obtain ⟨i0, hi0, hz0, hz1, hz2⟩ := info_parts intInfo3; clear hd2 hW hva hv; go_enter Tryz.func62, Tryz.ntmps62; go_upto_region 1 with (fail); rw [HW.out]; go_upto_region 4 with (go_at_call 13; refine HV.out.mono ?_; rintro e w2 ⟨rfl, hb2⟩; have y0 := (HK1.out.below hb2).cell 0; have HB2 := Lib.hid (HB1.out.trans (hb2.mono (by omega))); have hs2 := hb2.size; clear hb2); go_wp2
 go_loopw [3, 12] (fun cv iv wr => ∃ j : Nat, j <= d.length /\ iv = .int .i64 j /\ Hid (wr.ownsRow w.heap.size 3 1 cv j (((d.take j).map Fa.lo).map iW)) /\ Hid (Below w.heap.size w wr)) (fun _ iv _ => d.length - (intOf iv).toNat)
 case atStart => exact ⟨0, by omega, rfl, World.ownsRow_nil _ _ _ _, HB2⟩
 case round =>
  obtain ⟨j, hj, rfl, ho, hb⟩ := hrel; have hsz := hb.out.size; obtain ⟨ca, cc, hcv⟩ := own_len ho.out; subst hcv; by_cases hlt : j < d.length
  ·obtain ⟨b, o, rfl, hbB, f0, f1, f2, f3, w1, w2', w3, w4⟩ := HD2.out.at j hlt
   have q0 := (hb.out.cell (p := ⟨b, o + j * 4, none⟩) (by show b < w.heap.size; omega)).trans f0; have q1 := (hb.out.cell (p := ⟨b, o + j * 4 + 1, none⟩) (by show b < w.heap.size; omega)).trans f1; have q2 := (hb.out.cell (p := ⟨b, o + j * 4 + 2, none⟩) (by show b < w.heap.size; omega)).trans f2; have q3 := (hb.out.cell (p := ⟨b, o + j * 4 + 3, none⟩) (by show b < w.heap.size; omega)).trans f3; have htk : ((d.take (j + 1)).map Fa.lo).map iW = ((d.take j).map Fa.lo).map iW ++ [iW d[j].lo] := by rw [List.take_succ_eq_append_getElem hlt, List.map_append, List.map_append]; rfl
   have HTK := Lib.hid htk; clear f0 f1 f2 f3 w1 w2' w3 w4 htk; generalize d[j] = fa at *
   have HO2 := Lib.hid ((ho.out.alloc (.cells #[.string fa.name, .int .i64 fa.kind, .int .i64 fa.lo, .int .i64 fa.hi] 83)).alloc (.cells #[.int .i64 fa.lo] 3)); have hb3 : Below w.heap.size w ((wr.alloc (.cells #[.string fa.name, .int .i64 fa.kind, .int .i64 fa.lo, .int .i64 fa.hi] 83)).alloc (.cells #[.int .i64 fa.lo] 3)) := (hb.out.alloc (by omega) _).alloc (by simp; omega) _; have HB3 := Lib.hid hb3; clear hb3; go_wp2_with (at_builtin; refine wpList_append_own_at _ (by rfl) _ _ 29 (by rfl) w.heap.size 3 i0 _ 1 8 Tryz.underlying29 hi0 hz0 hz1 hz2 rfl (by decide) _ j _ (by rfl) HO2.out ⟨wr.heap.size + 1, 0, none⟩ 1 1 [iW fa.lo] (by rfl) (by rfl) (by have q := cell_one_dg (w := wr.alloc (.cells #[.string fa.name, .int .i64 fa.kind, .int .i64 fa.lo, .int .i64 fa.hi] 83)) (x := iW fa.lo) (t := 3); rw [World.size_alloc] at q; exact q) (by intro u hu; simp at hu; subst hu; rfl) (by unfold maxLen; omega) (by omega) (by simp; omega) ?_; intro v4 w4 hown4 hgrow4 hnil4 hat4; refine Hid.out ?_); refine Lib.hid ?_; obtain ⟨g4, cap4, rfl, hg4, hglt4⟩ := hown4.form (by omega)
   have HOW : Hid (w4.ownsRow w.heap.size 3 1 (.slice (some ⟨g4, 0, none⟩) (j + 1) cap4) (j + 1) (((d.take (j + 1)).map Fa.lo).map iW)) := by
    show World.ownsRow _ _ _ _ _ _ _
    rw [HTK.out]; exact hown4
   have HB4 : Hid (Below w.heap.size w w4) := HB3.out.grown hgrow4 (by have := HB3.out.size; omega) (fun k hk => (HO2.out.lt k hk).1); clear hown4 hgrow4 hnil4 hat4; go_wp2; go_roundw
   case rel => exact ⟨j + 1, by omega, by go_num, HOW, HB4⟩
   case measure => simp [intOf]; omega
  ·obtain rfl : j = d.length := by omega
   have HO3 := ho.out; rw [List.take_length] at HO3; have HO4 := Lib.hid HO3; clear HO3 ho; go_wp2; go_ret; exact ⟨_, rfl, by rw [List.length_map]; exact HO4.out, hb.out⟩
end
end Go.Proofs.YtejbgoigkefnfaaGreatDoor
