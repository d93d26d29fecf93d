/- The lexer's look-up of a byte's class, strconv.Atoi at a few digits. No conditions beyond sizes. -/
import Derived.Test.YtihpoecdnchioaaGreatDoorLex1
namespace Go.Proofs.YtihpoecdnchioaaGreatDoor
open Go.RowKit

/-- the class of the byte at a place, 0 behind the text -/
def atC (s : ByteArray) (i : Nat) : Nat := if h : i < s.size then clsB s[i].toNat else 0

set_option maxRecDepth 100000 in
set_option maxHeartbeats 400000 in
theorem at_any (s : ByteArray) (i : Nat) (bt bc : Nat) (w : World) (_hs : s.size ≤ 9223372036854775807) (ht : w.cell? ⟨bt, 0, none⟩ = some (.string s)) (hc : w.rangeAt bc 0 clsL) :
    Calls Tryz.prog 125 #[.int .i64 i, .pointer (some ⟨bt, 0, none⟩), .pointer (some ⟨bc, 0, none⟩)] w fun e w' => e = .returned (.int .u8 (atC s i)) ∧ w = w' := by
  by_cases h : i < s.size
  · have hb : w.cell? ⟨bc, s[i].toNat, none⟩ = some (.int .u8 (clsB s[i].toNat)) := by
      have hlt : s[i].toNat < clsL.length := by rw [clsL_len]; exact s[i].toNat_lt
      have h0 : clsL[s[i].toNat]? = some (Value.int .u8 (clsB s[i].toNat)) := by
        obtain ⟨v, hv⟩ : ∃ v, clsL[s[i].toNat]? = some v := ⟨_, List.getElem?_eq_getElem hlt⟩
        rw [hv, (clsL_get _ _ hv).2]
      simpa using hc _ _ h0
    have HR := Lib.hid (show atC s i = clsB s[i].toNat by unfold atC; rw [dif_pos h])
    have hbb : (s[i].toNat : Int) < 256 := by have := s[i].toNat_lt; omega
    clear hc
    go_enter Tryz.func125, Tryz.ntmps125
    go_wp2
    go_ret
    exact ⟨ret_int (by rw [HR.out]), rfl⟩
  · have HR := Lib.hid (show atC s i = 0 by unfold atC; rw [dif_neg h])
    clear hc
    go_enter Tryz.func125, Tryz.ntmps125
    go_wp2
    go_ret
    exact ⟨ret_int (by rw [HR.out]; rfl), rfl⟩

end Go.Proofs.YtihpoecdnchioaaGreatDoor
