/- The walks of formula.Size, of cmp.Compare and formula.compare at int. A bound on the number of nodes. -/
import Derived.Test.YtihpoecdnchioaaGreatDoorIndex
namespace Go.Proofs.YtihpoecdnchioaaGreatDoor
open Go.RowKit

mutual
def Fo.depth : Fo → Nat
  | .mk _ _ _ _ ks => Fo.depthL ks + 1
def Fo.depthL : List Fo → Nat
  | [] => 0
  | k :: ks => max k.depth (Fo.depthL ks)
end

theorem Fo.sizeL_snoc (l : List Fo) (k : Nat) (h : k < l.length) : Fo.sizeL (l.take (k + 1)) = Fo.sizeL (l.take k) + l[k].size := by
  have aux : ∀ (a b : List Fo), Fo.sizeL (a ++ b) = Fo.sizeL a + Fo.sizeL b := by
    intro a b
    induction a with
    | nil => simp [Fo.sizeL]
    | cons x a ih => simp [Fo.sizeL, ih]; omega
  rw [List.take_succ_eq_append_getElem h, aux]; simp [Fo.sizeL]
theorem Fo.depthL_snoc (l : List Fo) (k : Nat) (h : k < l.length) : Fo.depthL (l.take (k + 1)) = max (Fo.depthL (l.take k)) l[k].depth := by
  have aux : ∀ (a b : List Fo), Fo.depthL (a ++ b) = max (Fo.depthL a) (Fo.depthL b) := by
    intro a b
    induction a with
    | nil => simp [Fo.depthL]
    | cons x a ih => simp only [List.cons_append, Fo.depthL, ih]; omega
  rw [List.take_succ_eq_append_getElem h, aux]; simp [Fo.depthL]

mutual
theorem Fo.depth_le : ∀ (f : Fo), f.depth ≤ f.size
  | .mk _ _ _ _ ks => by have := Fo.depthL_le ks; simp only [Fo.depth, Fo.size]; omega
theorem Fo.depthL_le : ∀ (ks : List Fo), Fo.depthL ks ≤ Fo.sizeL ks
  | [] => by simp [Fo.depthL]
  | k :: ks => by have := Fo.depth_le k; have := Fo.depthL_le ks; simp only [Fo.depthL, Fo.sizeL]; omega
end

theorem Fo.sizeL_take (l : List Fo) (k : Nat) : Fo.sizeL (l.take k) ≤ Fo.sizeL l := by
  induction l generalizing k with
  | nil => simp [Fo.sizeL]
  | cons x l ih => cases k with
    | zero => simp [Fo.sizeL]
    | succ k => simp only [List.take_succ_cons, Fo.sizeL]; have := ih k; omega

set_option maxRecDepth 100000 in
set_option maxHeartbeats 400000 in
theorem size_any (N : Nat) : ∀ (f : Fo) (v : Value) (w : World) (B : Nat), f.size ≤ N → f.size ≤ 1000000 → B ≤ w.heap.size → f.In w B v →
    Calls Tryz.prog 59 #[v] w fun e w' => e = .returned (.tuple #[.int .i64 f.size, .int .i64 f.depth]) ∧ Below w.heap.size w w' := by
  induction N with
  | zero => intro f _ _ _ h; have := f.size_pos; omega
  | succ N ih =>
  intro f v w B hN hM hB hf
  have IH := Lib.hid ih
  clear ih
  obtain ⟨op, nm, c, n, ks⟩ := f
  obtain ⟨ao, cap, rfl, h1, h2, h3, h4, h5, h6, h7⟩ := hf
  unfold maxLen at h6
  have H7 := Lib.hid h7
  have HS := Lib.hid (show (Fo.mk op nm c n ks).size = Fo.sizeL ks + 1 by rw [Fo.size])
  have HD := Lib.hid (show (Fo.mk op nm c n ks).depth = Fo.depthL ks + 1 by rw [Fo.depth])
  rw [HS.out] at hN hM
  generalize (Fo.mk op nm c n ks).size = S at *
  generalize (Fo.mk op nm c n ks).depth = D at *
  clear h7 h1 h2 h3 h4
  go_enter Tryz.func59, Tryz.ntmps59
  go_wp2
  go_loopw [4, 5, 13] (fun n dp i wr => ∃ k a b : Nat, k ≤ ks.length ∧ i = .int .i64 k ∧ n = .int .i64 a ∧ dp = .int .i64 b ∧ Hid (a = Fo.sizeL (ks.take k) + 1) ∧ Hid (b = Fo.depthL (ks.take k)) ∧ a ≤ 1000000 ∧ b ≤ 1000000 ∧
    Below w.heap.size w wr ∧ w.heap.size < wr.heap.size) (fun _ _ i _ => ks.length - (intOf i).toNat)
  case atStart => exact ⟨0, 1, 0, by omega, rfl, rfl, rfl, by simp [Fo.sizeL, Hid], by simp [Fo.depthL, Hid], by omega, by omega, (Below.refl _ _).alloc (Nat.le_refl _) _, by simp⟩
  case round =>
    obtain ⟨k, a, b, hk, rfl, rfl, rfl, ha, hb, hal, hbl, hbw, hsz⟩ := hrel
    by_cases hlt : k < ks.length
    · obtain ⟨bb, off, rfl, hbB, hL⟩ := H7.out (by intro h; simp [h] at hlt)
      obtain ⟨ka, kc, g0, g1, g2, g3, g4, gk⟩ := Fo.InL.get ks off k hlt (Fo.InL.below (hbw.mono hB) hbB ks off hL)
      have hs1 := Fo.sizeL_snoc ks k hlt
      have hd1 := Fo.depthL_snoc ks k hlt
      have hs2 := Fo.sizeL_take ks (k + 1)
      have hsk := Fo.size_get ks k hlt
      have hdk := Fo.depth_le ks[k]
      generalize hx : ks[k] = x at *
      have A1 := Lib.hid (show a + x.size = Fo.sizeL (ks.take (k + 1)) + 1 by rw [hs1, ha.out]; omega)
      have A2 : a + x.size ≤ 1000000 := by rw [A1.out]; omega
      have A3 := Lib.hid (show max b x.depth = Fo.depthL (ks.take (k + 1)) by rw [hd1, hb.out])
      have A4 : x.depth ≤ 1000000 := by omega
      have GK := Lib.hid gk
      have hxs : x.size ≤ N := by omega
      have hxs2 : x.size ≤ 1000000 := by omega
      clear gk hL H7 hs1 hd1 hx hs2 hsk hdk ha hb
      have HBW := Lib.hid (hbw.alloc (by omega) (.cells #[.int .i64 x.op, .string x.name, .int .i64 x.cmp, .int .i64 x.n, .slice ka x.kids.length kc] 44))
      by_cases hcm : b < x.depth
      · have hmx := Lib.hid (show x.depth = max b x.depth by omega)
        have hc1 : (b : Int) < (x.depth : Int) := by omega
        go_wp2_with (go_at_call 59; refine (IH.out _ _ _ B hxs hxs2 ?_ ?_).mono ?_; (simp; omega); exact Fo.In.below ((Below.refl _ _).alloc (by omega) _) _ _ GK.out; rintro e w' ⟨rfl, hb'⟩)
        go_roundw
        case rel => exact ⟨k + 1, a + x.size, x.depth, by omega, by go_num, by go_num, rfl, A1, by show _ = _; rw [← A3.out]; omega, A2, A4, HBW.out.trans (hb'.mono (by simp; omega)), by have := hb'.size; simp at this; omega⟩
        case measure => simp [intOf]; omega
      · have hc1 : (x.depth : Int) ≤ (b : Int) := by omega
        go_wp2_with (go_at_call 59; refine (IH.out _ _ _ B hxs hxs2 ?_ ?_).mono ?_; (simp; omega); exact Fo.In.below ((Below.refl _ _).alloc (by omega) _) _ _ GK.out; rintro e w' ⟨rfl, hb'⟩)
        go_roundw
        case rel => exact ⟨k + 1, a + x.size, b, by omega, by go_num, by go_num, rfl, A1, by show _ = _; rw [← A3.out]; omega, A2, hbl, HBW.out.trans (hb'.mono (by simp; omega)), by have := hb'.size; simp at this; omega⟩
        case measure => simp [intOf]; omega
    · have e1 : ((a : Nat) : Int) = (S : Nat) := by
        have := ha.out; rw [List.take_of_length_le (by omega)] at this
        have := HS.out; omega
      have e2 : ((b : Nat) : Int) + 1 = (D : Nat) := by
        have := hb.out; rw [List.take_of_length_le (by omega)] at this
        have := HD.out; omega
      have E1 := Lib.hid e1
      have E2 := Lib.hid e2
      clear e1 e2 ha hb
      go_wp2
      go_ret2
      exact ⟨ret_int2 E1.out E2.out, hbw⟩

/-- compare by a way: 1 to 6 -/
def cmpB (a how b : Int) : Bool :=
  (how == 1 && decide (a = b)) || (how == 2 && decide (a ≠ b)) || (how == 3 && decide (a < b)) || (how == 4 && decide (a ≤ b)) || (how == 5 && decide (b < a)) || (how == 6 && decide (b ≤ a))

set_option maxHeartbeats 400000 in
theorem cmpCompare_any (a b : Int) (w : World) :
    Calls Tryz.prog 62 #[.int .i64 a, .int .i64 b] w fun e w' => e = .returned (.int .i64 (if a < b then -1 else if b < a then 1 else 0)) ∧ w = w' := by
  rcases Int.lt_trichotomy a b with h | h | h
  · have h2 : ¬ b < a := by omega
    go_enter Tryz.func62, Tryz.ntmps62
    go_wp2
    go_ret
    exact ⟨by simp, rfl⟩
  · subst h
    go_enter Tryz.func62, Tryz.ntmps62
    go_wp2
    go_ret
    exact ⟨by simp, rfl⟩
  · have h2 : ¬ a < b := by omega
    go_enter Tryz.func62, Tryz.ntmps62
    go_wp2
    go_ret
    exact ⟨by simp, rfl⟩

set_option maxRecDepth 100000 in
set_option maxHeartbeats 2000000 in
theorem compare_any (a how b : Int) (w : World) (h1 : 1 ≤ how) (h6 : how ≤ 6) :
    Calls Tryz.prog 37 #[.int .i64 a, .int .i64 how, .int .i64 b] w fun e w' => e = .returned (.bool (cmpB a how b)) ∧ w = w' := by
  have C := cmpCompare_any a b w
  have hh : how = 1 ∨ how = 2 ∨ how = 3 ∨ how = 4 ∨ how = 5 ∨ how = 6 := by omega
  rcases Int.lt_trichotomy a b with h | h | h
  · rw [if_pos h] at C
    have C' := Lib.hid C
    have g1 : ¬ a = b := by omega
    have g2 : ¬ b < a := by omega
    have g3 : ¬ b ≤ a := by omega
    have g4 : a ≤ b := by omega
    have HB := Lib.hid (show ∀ how, cmpB a how b = _ from fun how => by unfold cmpB; rw [decide_eq_false g1, decide_eq_true (show a ≠ b from g1), decide_eq_true h, decide_eq_true g4, decide_eq_false g2, decide_eq_false g3])
    clear C g1 g2 g3 g4 h h1 h6
    rcases hh with rfl | rfl | rfl | rfl | rfl | rfl
    all_goals
      go_enter Tryz.func37, Tryz.ntmps37
      go_wp2_with (go_at_call 62; refine C'.out.mono ?_; rintro e w2 ⟨rfl, rfl⟩)
      go_ret
      exact ⟨ret_bool (by rw [HB.out]; rfl), rfl⟩
  · rw [if_neg (by omega), if_neg (by omega)] at C
    have C' := Lib.hid C
    have g2 : ¬ b < a := by omega
    have g3 : b ≤ a := by omega
    have g4 : a ≤ b := by omega
    have g5 : ¬ a < b := by omega
    have HB := Lib.hid (show ∀ how, cmpB a how b = _ from fun how => by unfold cmpB; rw [decide_eq_true h, decide_eq_false (show ¬ a ≠ b from fun hn => hn h), decide_eq_false g5, decide_eq_true g4, decide_eq_false g2, decide_eq_true g3])
    clear C g2 g3 g4 g5 h h1 h6
    rcases hh with rfl | rfl | rfl | rfl | rfl | rfl
    all_goals
      go_enter Tryz.func37, Tryz.ntmps37
      go_wp2_with (go_at_call 62; refine C'.out.mono ?_; rintro e w2 ⟨rfl, rfl⟩)
      go_ret
      exact ⟨ret_bool (by rw [HB.out]; rfl), rfl⟩
  · rw [if_neg (by omega), if_pos h] at C
    have C' := Lib.hid C
    have g1 : ¬ a = b := by omega
    have g2 : ¬ a < b := by omega
    have g3 : b ≤ a := by omega
    have g4 : ¬ a ≤ b := by omega
    have HB := Lib.hid (show ∀ how, cmpB a how b = _ from fun how => by unfold cmpB; rw [decide_eq_false g1, decide_eq_true (show a ≠ b from g1), decide_eq_false g2, decide_eq_false g4, decide_eq_true h, decide_eq_true g3])
    clear C g1 g2 g3 g4 h h1 h6
    rcases hh with rfl | rfl | rfl | rfl | rfl | rfl
    all_goals
      go_enter Tryz.func37, Tryz.ntmps37
      go_wp2_with (go_at_call 62; refine C'.out.mono ?_; rintro e w2 ⟨rfl, rfl⟩)
      go_ret
      exact ⟨ret_bool (by rw [HB.out]; rfl), rfl⟩

end Go.Proofs.YtihpoecdnchioaaGreatDoor
