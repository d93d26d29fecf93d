/- strconv.Atoi at one to eighteen digits. Conditions: the text's bytes are digits. -/
import Derived.Test.YtihpoecdnchioaaGreatDoorLex2
import Derived.Lib.ConvBytes
import Derived.Lib.AtoiErrMem
namespace Go.Proofs.YtihpoecdnchioaaGreatDoor
open Go.RowKit

/-- the value of digits -/
def decL (l : List UInt8) : Nat := l.foldl (fun n c => 10 * n + (c.toNat - 48)) 0
theorem decL_snoc (l : List UInt8) (c : UInt8) : decL (l ++ [c]) = 10 * decL l + (c.toNat - 48) := by simp [decL]
theorem take_snoc (s : ByteArray) (k : Nat) (h : k < s.size) : s.data.toList.take (k + 1) = s.data.toList.take k ++ [s[k]] := by
  rw [List.take_succ_eq_append_getElem (by simpa using h)]; rfl
/-- all bytes are digits -/
def Digits (s : ByteArray) : Prop := ∀ i (h : i < s.size), 48 ≤ s[i].toNat ∧ s[i].toNat ≤ 57
theorem decL_lt (s : ByteArray) (hd : Digits s) (k : Nat) (h : k ≤ s.size) : decL (s.data.toList.take k) < 10 ^ k := by
  induction k with
  | zero => simp [decL]
  | succ k ih =>
    have h1 := ih (by omega)
    have h2 := hd k (by omega)
    rw [take_snoc s k (by omega), decL_snoc, Nat.pow_succ]
    omega

set_option maxRecDepth 100000 in
set_option maxHeartbeats 1000000 in
theorem atoiIn_any (s : ByteArray) (h1 : 1 ≤ s.size) (h18 : s.size ≤ 18) (hd : Digits s) (w : World) :
    Calls Tryz.prog 129 #[.string s] w fun e w' => e = .returned (.tuple #[.int .i64 (decL s.data.toList), .nilIface]) ∧ Below w.heap.size w w' := by
  have hcv := Lib.run_convert_string_bytes (P := Tryz.prog) w 9 173 5 s (u := .string) Tryz.underlying9 Tryz.underlying173 Tryz.underlying5
  have hB : ∀ j, (h : j < s.size) → (Lib.bytesWorld w 5 s).cell? ⟨w.heap.size, j, none⟩ = some (.int .u8 s[j].toNat) := fun j hj => by
    rw [Lib.bytesWorld_cell w 5 s j hj]
    congr 3
    have hj' : j < s.data.toList.length := by simpa using hj
    rw [List.getD_eq_getElem?_getD, List.getElem?_eq_getElem hj']
    rfl
  have HBel := Lib.hid (Lib.bytesWorld_below w 5 s)
  obtain ⟨W1, hW1⟩ : ∃ W1, Lib.bytesWorld w 5 s = W1 := ⟨_, rfl⟩
  rw [hW1] at hcv hB HBel
  clear hW1
  have HB := Lib.hid hB
  have HD := Lib.hid hd
  clear hB
  have hs0 := hd 0 (by omega)
  have e45 : ((s[0].toNat : Int) == 45) = false := by simp; omega
  have e43 : ((s[0].toNat : Int) == 43) = false := by simp; omega
  clear hd
  have HF := Lib.hid (show decL s.data.toList = decL (s.data.toList.take s.size) by rw [List.take_of_length_le (by simp)])
  generalize decL s.data.toList = V at *
  go_enter Tryz.func129, Tryz.ntmps129
  go_wp2
  go_loop [49, 6] (fun vi vn => ∃ k acc : Nat, k ≤ s.size ∧ vi = .int .i64 k ∧ vn = .int .i64 acc ∧ Hid (acc = decL (s.data.toList.take k))) (fun vi _ => s.size - (intOf vi).toNat)
  case atStart => exact ⟨0, 0, Nat.zero_le _, rfl, rfl, Lib.hid rfl⟩
  case round =>
    obtain ⟨k, acc, hk, rfl, rfl, hacc⟩ := hrel
    by_cases hlt : k < s.size
    · have hc1 := HB.out k hlt
      have hdk := HD.out k hlt
      have hlt18 : acc < 100000000000000000 := by
        have := decL_lt s HD.out k hk
        rw [← hacc.out] at this
        refine Nat.lt_of_lt_of_le this (Nat.pow_le_pow_right (n := 10) (by omega) (show k ≤ 17 by omega))
      have HN := Lib.hid (show 10 * acc + (s[k].toNat - 48) = decL (s.data.toList.take (k + 1)) by rw [take_snoc s k hlt, decL_snoc, hacc.out])
      clear hacc
      go_wp2
      go_round
      case rel => exact ⟨k + 1, 10 * acc + (s[k].toNat - 48), by omega, by go_num, by first | go_num | (congr 1; unfold wrap64; omega), HN⟩
      case measure => simp [intOf]; omega
    · obtain rfl : k = s.size := by omega
      have hv : acc = V := by rw [HF.out]; exact hacc.out
      subst hv
      clear hacc HF
      go_wp2
      go_ret2
      exact ⟨rfl, HBel.out⟩

set_option maxRecDepth 100000 in
set_option maxHeartbeats 400000 in
theorem atoi_any (s : ByteArray) (h1 : 1 ≤ s.size) (h18 : s.size ≤ 18) (hd : Digits s) (w : World) :
    Calls Tryz.prog 127 #[.string s] w fun e w' => e = .returned (.tuple #[.int .i64 (decL s.data.toList), .nilIface]) ∧ Below w.heap.size w w' := by
  have H := Lib.hid (atoiIn_any s h1 h18 hd w)
  clear hd
  go_enter Tryz.func127, Tryz.ntmps127
  go_wp2_with (go_at_call 129; (with_reducible refine H.out.mono ?_); rintro e w2 ⟨rfl, hb2⟩)
  go_ret2
  exact ⟨rfl, hb2⟩

end Go.Proofs.YtihpoecdnchioaaGreatDoor
