/- The walk of formula.name: whether a text is one name. No conditions. -/
import Derived.Test.YtihpoecdnchioaaGreatDoorLex4
namespace Go.Proofs.YtihpoecdnchioaaGreatDoor
open Go.RowKit

/-- a row's first token -/
theorem tok_cells {w : World} {B : Nat} {v : Value} {x : Fd} {n : Nat} {ys : List Value} (h : w.ownsRow B 144 4 v (n + 1) (x.tok ++ ys)) :
    ∃ g cap, v = .slice (some ⟨g, 0, none⟩) (n + 1) cap ∧ w.cell? ⟨g, 0, none⟩ = some (.int .i64 x.kind) ∧ w.cell? ⟨g, 1, none⟩ = some (.string x.text) := by
  rcases h.2 with ⟨_, h0⟩ | ⟨g, cap, cur, rfl, _, hg, _, _, hs, hx⟩
  · omega
  · refine ⟨g, cap, rfl, ?_, ?_⟩
    · have : (cur.toList.take ((n + 1) * 4))[0]? = some (.int .i64 x.kind) := by rw [hx]; rfl
      rw [List.getElem?_take_of_lt (by omega)] at this
      simpa [World.cell?, hg] using this
    · have : (cur.toList.take ((n + 1) * 4))[1]? = some (.string x.text) := by rw [hx]; rfl
      rw [List.getElem?_take_of_lt (by omega)] at this
      simpa [World.cell?, hg] using this

theorem nameB_big (s : ByteArray) (h : 20000 < s.size) : nameB s = false := by
  unfold nameB
  rw [decide_eq_false (by omega)]; simp

/-- what name asks of the tokens -/
theorem lex_name {s : ByteArray} {B : Nat} {W : World} {xs : List Fd} {v : Value} {er : Nat} (h : LexOk s B W xs v er) :
    (er ≠ 0 ∧ nameB s = false) ∨ (er = 0 ∧ (∃ ao n cap, v = .slice ao n cap ∧ n ≠ 1 ∧ n ≤ 5000) ∧ nameB s = false) ∨
    (er = 0 ∧ ∃ g cap k tx, v = .slice (some ⟨g, 0, none⟩) 1 cap ∧ W.cell? ⟨g, 0, none⟩ = some (.int .i64 (k : Nat)) ∧ W.cell? ⟨g, 1, none⟩ = some (.string tx) ∧ ((((k : Int) == 1) && (tx.toList == s.toList)) = nameB s)) := by
  by_cases he : er = 0
  · obtain ⟨B', _, hrow⟩ := h.row he
    by_cases hl : xs.length = 1
    · obtain ⟨x, rfl⟩ := List.length_eq_one_iff.1 hl
      obtain ⟨g, cap, rfl, c0, c1⟩ := tok_cells (n := 0) (ys := []) (by simpa using hrow)
      refine .inr (.inr ⟨he, g, cap, x.kind, x.text, rfl, c0, c1, ?_⟩)
      rw [Bool.eq_iff_iff, Bool.and_eq_true, beq_iff_eq, ← eqB_eq, beq_iff_eq]
      constructor
      · rintro ⟨hk, ht⟩
        obtain ⟨h1, h2⟩ := h.ok x (by simp)
        exact h2 (by omega) h1 ht
      · intro hn
        have := (h.name hn).2
        simp only [List.cons.injEq, and_true] at this
        subst this
        exact ⟨rfl, rfl⟩
    · refine .inr (.inl ⟨he, ?_, ?_⟩)
      · rcases hrow.2 with ⟨rfl, h0⟩ | ⟨g, cap, cur, rfl, _⟩
        · exact ⟨_, _, _, rfl, by omega, by omega⟩
        · exact ⟨_, _, _, rfl, hl, h.few⟩
      · rw [Bool.eq_false_iff]
        intro hn
        rw [(h.name hn).2] at hl; exact hl rfl
  · refine .inl ⟨he, ?_⟩
    rw [Bool.eq_false_iff]
    intro hn
    exact he (h.name hn).1

theorem lexName_any (s : ByteArray) (hs : s.size ≤ 20000) (w : World) : Calls Tryz.prog 106 #[.string s] w fun e w' => ∃ v er at_, e = .returned (.tuple #[v, .int .i64 (er : Nat), .int .i64 at_]) ∧ Below w.heap.size w w' ∧
    ((er ≠ 0 ∧ nameB s = false) ∨ (er = 0 ∧ (∃ ao n cap, v = .slice ao n cap ∧ n ≠ 1 ∧ n ≤ 5000) ∧ nameB s = false) ∨
    (er = 0 ∧ ∃ g cap k tx, v = .slice (some ⟨g, 0, none⟩) 1 cap ∧ w'.cell? ⟨g, 0, none⟩ = some (.int .i64 (k : Nat)) ∧ w'.cell? ⟨g, 1, none⟩ = some (.string tx) ∧ ((((k : Int) == 1) && (tx.toList == s.toList)) = nameB s))) :=
  (lexSmall_any s hs w).mono fun _ _ ⟨_, v, er, at_, he, hok, hb⟩ => ⟨v, er, at_, he, hb, lex_name hok⟩

set_option maxRecDepth 100000 in
set_option maxHeartbeats 1000000 in
theorem name_any (s : ByteArray) (hs : s.size ≤ maxLen) (w : World) :
    Calls Tryz.prog 81 #[.string s] w fun e w' => e = .returned (.bool (nameB s)) ∧ Below w.heap.size w w' := by
  by_cases h0 : 20000 < s.size
  · have HN := Lib.hid (nameB_big s h0)
    have C := Lib.hid (lexBig_any s h0 hs w)
    clear h0 hs
    go_enter Tryz.func81, Tryz.ntmps81
    go_wp2_with (go_at_call 106; refine C.out.mono ?_; rintro e w2 ⟨rfl, hb2⟩)
    go_ret
    exact ⟨ret_bool HN.out.symm, hb2⟩
  · have C := Lib.hid (lexName_any s (by omega) w)
    clear h0 hs
    go_enter Tryz.func81, Tryz.ntmps81
    go_wp2_with (fail)
    refine C.out.mono ?_
    rintro e w2 ⟨v, er, at_, rfl, hb2, (⟨he, hn⟩ | ⟨rfl, ⟨ao, n, cap, rfl, hn1, hn5⟩, hn⟩ | ⟨rfl, g, cap, k, tx, rfl, c0, c1, hn⟩)⟩
    · have he' : ((er : Int) == 0) = false := beq_eq_false_iff_ne.2 (by omega)
      have HN := Lib.hid hn
      clear he hn
      go_wp2
      go_ret
      exact ⟨ret_bool (by rw [HN.out]), hb2⟩
    · have hn' : ((n : Int) == 1) = false := beq_eq_false_iff_ne.2 (by omega)
      have HN := Lib.hid hn
      clear hn hn1
      go_wp2
      go_ret
      exact ⟨ret_bool (by rw [HN.out]), hb2⟩
    · cases a1 : ((k : Int) == 1) <;> cases a2 : (tx.toList == s.toList)
      all_goals
        rw [a1, a2] at hn
        have HN := Lib.hid hn
        clear hn
        go_wp2
        go_ret
        exact ⟨ret_bool (by rw [← HN.out]; rfl), hb2⟩

end Go.Proofs.YtihpoecdnchioaaGreatDoor
