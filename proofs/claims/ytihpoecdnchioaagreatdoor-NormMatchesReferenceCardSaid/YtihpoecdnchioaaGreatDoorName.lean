/- The walk of fact.isName: whether a text is a name. No conditions beyond the length that every string has. -/
import Derived.Test.YtihpoecdnchioaaGreatDoorLaws
namespace Go.Proofs.YtihpoecdnchioaaGreatDoor
open Go.RowKit

/-- byte c may stand at place k of a name -/
def okB (k : Nat) (c : Nat) : Bool := decide (((97 ≤ (c : Int) ∧ (c : Int) ≤ 122) ∨ (65 ≤ (c : Int) ∧ (c : Int) ≤ 90)) ∨ (k ≠ 0 ∧ ((48 ≤ (c : Int) ∧ (c : Int) ≤ 57) ∨ (c : Int) = 95)))
def okAll : List UInt8 → Nat → Bool
  | [], _ => true
  | c :: l, k => okB k c.toNat && okAll l (k + 1)
/-- a text is a name -/
def nameB (s : ByteArray) : Bool := okAll s.data.toList 0 && !s.toList.isEmpty && decide (s.size ≤ 24)

theorem okAll_drop (s : ByteArray) (k : Nat) (h : k < s.size) : okAll (s.data.toList.drop k) k = (okB k s[k].toNat && okAll (s.data.toList.drop (k + 1)) (k + 1)) := by
  rw [List.drop_eq_getElem_cons (by simpa using h), okAll]; rfl

theorem isEmpty_size (s : ByteArray) : s.toList.isEmpty = decide (s.size = 0) := by
  rw [ByteArray.toList_eq]
  cases s with | mk d => cases d with | mk l => cases l <;> simp [ByteArray.size]

/-- a byte's class, with each test on it decided -/
theorem byte_cls (c : Int) (h0 : 0 ≤ c) (h1 : c ≤ 255) :
    (0 ≤ c ∧ c ≤ 47 ∧ decide (97 ≤ c) = false ∧ decide (c ≤ 122) = true ∧ decide (65 ≤ c) = false ∧ decide (c ≤ 90) = true ∧ decide (48 ≤ c) = false ∧ decide (c ≤ 57) = true ∧ (c == 95) = false) ∨
    (48 ≤ c ∧ c ≤ 57 ∧ decide (97 ≤ c) = false ∧ decide (c ≤ 122) = true ∧ decide (65 ≤ c) = false ∧ decide (c ≤ 90) = true ∧ decide (48 ≤ c) = true ∧ decide (c ≤ 57) = true ∧ (c == 95) = false) ∨
    (58 ≤ c ∧ c ≤ 64 ∧ decide (97 ≤ c) = false ∧ decide (c ≤ 122) = true ∧ decide (65 ≤ c) = false ∧ decide (c ≤ 90) = true ∧ decide (48 ≤ c) = true ∧ decide (c ≤ 57) = false ∧ (c == 95) = false) ∨
    (65 ≤ c ∧ c ≤ 90 ∧ decide (97 ≤ c) = false ∧ decide (c ≤ 122) = true ∧ decide (65 ≤ c) = true ∧ decide (c ≤ 90) = true ∧ decide (48 ≤ c) = true ∧ decide (c ≤ 57) = false ∧ (c == 95) = false) ∨
    (91 ≤ c ∧ c ≤ 94 ∧ decide (97 ≤ c) = false ∧ decide (c ≤ 122) = true ∧ decide (65 ≤ c) = true ∧ decide (c ≤ 90) = false ∧ decide (48 ≤ c) = true ∧ decide (c ≤ 57) = false ∧ (c == 95) = false) ∨
    (95 ≤ c ∧ c ≤ 95 ∧ decide (97 ≤ c) = false ∧ decide (c ≤ 122) = true ∧ decide (65 ≤ c) = true ∧ decide (c ≤ 90) = false ∧ decide (48 ≤ c) = true ∧ decide (c ≤ 57) = false ∧ (c == 95) = true) ∨
    (96 ≤ c ∧ c ≤ 96 ∧ decide (97 ≤ c) = false ∧ decide (c ≤ 122) = true ∧ decide (65 ≤ c) = true ∧ decide (c ≤ 90) = false ∧ decide (48 ≤ c) = true ∧ decide (c ≤ 57) = false ∧ (c == 95) = false) ∨
    (97 ≤ c ∧ c ≤ 122 ∧ decide (97 ≤ c) = true ∧ decide (c ≤ 122) = true ∧ decide (65 ≤ c) = true ∧ decide (c ≤ 90) = false ∧ decide (48 ≤ c) = true ∧ decide (c ≤ 57) = false ∧ (c == 95) = false) ∨
    (123 ≤ c ∧ c ≤ 255 ∧ decide (97 ≤ c) = true ∧ decide (c ≤ 122) = false ∧ decide (65 ≤ c) = true ∧ decide (c ≤ 90) = false ∧ decide (48 ≤ c) = true ∧ decide (c ≤ 57) = false ∧ (c == 95) = false) := by
  have hcl : (0 ≤ c ∧ c ≤ 47) ∨ (48 ≤ c ∧ c ≤ 57) ∨ (58 ≤ c ∧ c ≤ 64) ∨ (65 ≤ c ∧ c ≤ 90) ∨ (91 ≤ c ∧ c ≤ 94) ∨ (95 ≤ c ∧ c ≤ 95) ∨ (96 ≤ c ∧ c ≤ 96) ∨ (97 ≤ c ∧ c ≤ 122) ∨ (123 ≤ c ∧ c ≤ 255) := by omega
  rcases hcl with h | h | h | h | h | h | h | h | h
  · left; exact ⟨by omega, by omega, by simp; omega, by simp; omega, by simp; omega, by simp; omega, by simp; omega, by simp; omega, by simp; omega⟩
  · right; left; exact ⟨by omega, by omega, by simp; omega, by simp; omega, by simp; omega, by simp; omega, by simp; omega, by simp; omega, by simp; omega⟩
  · right; right; left; exact ⟨by omega, by omega, by simp; omega, by simp; omega, by simp; omega, by simp; omega, by simp; omega, by simp; omega, by simp; omega⟩
  · right; right; right; left; exact ⟨by omega, by omega, by simp; omega, by simp; omega, by simp; omega, by simp; omega, by simp; omega, by simp; omega, by simp; omega⟩
  · right; right; right; right; left; exact ⟨by omega, by omega, by simp; omega, by simp; omega, by simp; omega, by simp; omega, by simp; omega, by simp; omega, by simp; omega⟩
  · right; right; right; right; right; left; exact ⟨by omega, by omega, by simp; omega, by simp; omega, by simp; omega, by simp; omega, by simp; omega, by simp; omega, by simp; omega⟩
  · right; right; right; right; right; right; left; exact ⟨by omega, by omega, by simp; omega, by simp; omega, by simp; omega, by simp; omega, by simp; omega, by simp; omega, by simp; omega⟩
  · right; right; right; right; right; right; right; left; exact ⟨by omega, by omega, by simp; omega, by simp; omega, by simp; omega, by simp; omega, by simp; omega, by simp; omega, by simp; omega⟩
  · right; right; right; right; right; right; right; right; exact ⟨by omega, by omega, by simp; omega, by simp; omega, by simp; omega, by simp; omega, by simp; omega, by simp; omega, by simp; omega⟩

set_option maxRecDepth 100000 in
set_option maxHeartbeats 1000000 in
theorem isName_any (s : ByteArray) (w : World) (hs : s.size ≤ maxLen) :
    Calls Tryz.prog 67 #[.string s] w fun e w' => e = .returned (.bool (nameB s)) ∧ w = w' := by
  unfold maxLen at hs
  have HR : Hid (nameB s = (okAll s.data.toList 0 && !s.toList.isEmpty && decide (s.size ≤ 24))) := rfl
  generalize nameB s = R at *
  go_enter Tryz.func67, Tryz.ntmps67
  go_wp2
  go_loop [9] (fun i => ∃ k : Nat, k ≤ s.size ∧ i = .int .i64 k ∧ Hid (okAll (s.data.toList.drop k) k = okAll s.data.toList 0)) (fun i => s.size - (intOf i).toNat)
  case atStart => exact ⟨0, by omega, rfl, rfl⟩
  case round =>
    obtain ⟨k, hk, rfl, hin⟩ := hrel
    by_cases hlt : k < s.size
    · have ho := okAll_drop s k hlt
      rw [hin.out] at ho
      have HO := Lib.hid ho
      clear ho hin
      have hyes : okB k s[k].toNat = true → okAll (s.data.toList.drop (k + 1)) (k + 1) = okAll s.data.toList 0 := fun h => by rw [HO.out, h, Bool.true_and]
      have hno : okB k s[k].toNat = false → R = false := fun h => by rw [HR.out, HO.out, h]; simp
      have HY := Lib.hid hyes
      have HN := Lib.hid hno
      clear hyes hno HO HR
      have hcl := byte_cls (s[k].toNat : Int) (by omega) (by have := s[k].toNat_lt; omega)
      by_cases hk0 : k = 0
      · subst hk0
        rcases hcl with ⟨hc, hc', t1, t2, t3, t4, t5, t6, t7⟩ | ⟨hc, hc', t1, t2, t3, t4, t5, t6, t7⟩ | ⟨hc, hc', t1, t2, t3, t4, t5, t6, t7⟩ | ⟨hc, hc', t1, t2, t3, t4, t5, t6, t7⟩ | ⟨hc, hc', t1, t2, t3, t4, t5, t6, t7⟩ | ⟨hc, hc', t1, t2, t3, t4, t5, t6, t7⟩ | ⟨hc, hc', t1, t2, t3, t4, t5, t6, t7⟩ | ⟨hc, hc', t1, t2, t3, t4, t5, t6, t7⟩ | ⟨hc, hc', t1, t2, t3, t4, t5, t6, t7⟩
        all_goals
          go_wp2
          first
          | (go_ret; exact ⟨ret_bool (HN.out (decide_eq_false (by omega))).symm, rfl⟩)
          | (go_round; (case rel => exact ⟨0 + 1, by omega, by go_num, HY.out (decide_eq_true (by omega))⟩); (case measure => first | (simp [intOf]; omega) | simp [intOf]))
      · have hkp : ((k : Int) == 0) = false := by simp [hk0]
        have hkp' : 0 < k := by omega
        clear hk0
        rcases hcl with ⟨hc, hc', t1, t2, t3, t4, t5, t6, t7⟩ | ⟨hc, hc', t1, t2, t3, t4, t5, t6, t7⟩ | ⟨hc, hc', t1, t2, t3, t4, t5, t6, t7⟩ | ⟨hc, hc', t1, t2, t3, t4, t5, t6, t7⟩ | ⟨hc, hc', t1, t2, t3, t4, t5, t6, t7⟩ | ⟨hc, hc', t1, t2, t3, t4, t5, t6, t7⟩ | ⟨hc, hc', t1, t2, t3, t4, t5, t6, t7⟩ | ⟨hc, hc', t1, t2, t3, t4, t5, t6, t7⟩ | ⟨hc, hc', t1, t2, t3, t4, t5, t6, t7⟩
        all_goals
          go_wp2
          first
          | (go_ret; exact ⟨ret_bool (HN.out (decide_eq_false (by omega))).symm, rfl⟩)
          | (go_round; (case rel => exact ⟨k + 1, by omega, by go_num, HY.out (decide_eq_true (by omega))⟩); (case measure => first | (simp [intOf]; omega) | simp [intOf]))
    · have HR2 : Hid (R = (!s.toList.isEmpty && decide (s.size ≤ 24))) := by
        have h0 := hin.out
        rw [List.drop_of_length_le (by simp; omega), okAll] at h0
        show _ = _
        rw [HR.out, ← h0]; simp
      clear hin HR
      have hemp := isEmpty_size s
      by_cases h0 : s.size = 0
      · rw [decide_eq_true h0] at hemp
        rw [hemp] at HR2
        go_wp2
        go_ret
        exact ⟨ret_bool (by rw [HR2.out]; simp), rfl⟩
      · rw [decide_eq_false h0] at hemp
        rw [hemp] at HR2
        by_cases h24 : s.size ≤ 24
        · have h24d : (s.size : Int) ≤ 24 := by omega
          rw [decide_eq_true h24] at HR2
          go_wp2
          go_ret
          exact ⟨ret_bool (by rw [HR2.out]; simp), rfl⟩
        · have h24d : ¬ (s.size : Int) ≤ 24 := by omega
          rw [decide_eq_false h24] at HR2
          clear h24
          go_wp2
          go_ret
          exact ⟨ret_bool (by rw [HR2.out]; simp), rfl⟩

end Go.Proofs.YtihpoecdnchioaaGreatDoor
