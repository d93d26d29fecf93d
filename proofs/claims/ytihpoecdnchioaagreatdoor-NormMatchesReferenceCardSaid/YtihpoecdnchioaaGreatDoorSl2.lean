/- slices.IndexFunc, slices.ContainsFunc at ints and a bound method. No conditions. -/
import Derived.Test.YtihpoecdnchioaaGreatDoorSl
namespace Go.Proofs.YtihpoecdnchioaaGreatDoor
open Go.RowKit

/-- a bound method applied to the elements of a row: J is kept -/
abbrev MethOn (g : Nat) (r : Value) (p : Int → Bool) (l : List Int) (J : World → Prop) : Prop :=
  ∀ (W : World) (x : Int), x ∈ l → J W → Calls Tryz.prog g #[r, .int .i64 x] W fun e W' => e = .returned (.bool (p x)) ∧ J W'

set_option maxRecDepth 100000 in
set_option maxHeartbeats 400000 in
theorem idxFuncInt_any (ks : List Int) (g : Nat) (r : Value) (p : Int → Bool) (J : World → Prop) (B : Nat) (ao : Option Addr) (cap : Nat) (w : World) (eg : ∀ args w, (callFunc g args).run Tryz.prog w = .ok (.enter g args) w)
    (hcap : cap ≤ maxLen) (hlen : ks.length ≤ cap) (hrow : ∀ W, J W → IntsIn W B ks (.slice ao ks.length cap)) (hp : MethOn g r p ks J) (h0 : J w) :
    Calls Tryz.prog 70 #[.slice ao ks.length cap, .func (.func g) #[r] #[]] w fun e w' => e = .returned (.int .i64 (idxFrom p ks 0)) ∧ J w' := by
  unfold maxLen at hcap
  have HR : Hid (idxFrom p ks 0 = idxFrom p (ks.drop 0) ((0 : Nat) : Int)) := rfl
  have HP := Lib.hid hp
  have HW := Lib.hid hrow
  have HJ0 := Lib.hid h0
  generalize idxFrom p ks 0 = R at *
  clear hp hrow h0
  go_enter Tryz.func70, Tryz.ntmps70
  go_wp2
  go_loopw [8] (fun i wr => ∃ k : Nat, k ≤ ks.length ∧ i = .int .i64 k ∧ Hid (R = idxFrom p (ks.drop k) (k : Nat)) ∧ Hid (J wr)) (fun i _ => ks.length - (intOf i).toNat)
  case atStart => exact ⟨0, by omega, rfl, HR, HJ0⟩
  case round =>
    obtain ⟨k, hk, rfl, hin, hj⟩ := hrel
    by_cases hlt : k < ks.length
    · obtain ⟨b, off, rfl, hbb, hcc⟩ := SlIn.one (HW.out wr hj.out) k hlt
      have hs := hin.out
      rw [idxFrom_drop _ ks k hlt] at hs
      have HC := Lib.hid (HP.out wr ks[k] (List.getElem_mem _) hj.out)
      generalize ks[k] = y at *
      have HJ := hj
      clear hj
      cases he : p y with
      | true =>
        have HS := Lib.hid (show (k : Int) = R by rw [hs, he]; rfl)
        rw [he] at HC
        clear hs hin HR
        go_wp2_with (go_at_fn g; refine HC.out.mono ?_; rintro e w' ⟨rfl, hj'⟩)
        go_ret
        exact ⟨ret_int HS.out, hj'⟩
      | false =>
        have HS := Lib.hid (show R = idxFrom p (ks.drop (k + 1)) ((k + 1 : Nat) : Int) by rw [hs, he]; rfl)
        rw [he] at HC
        clear hs hin HR
        go_wp2_with (go_at_fn g; refine HC.out.mono ?_; rintro e w' ⟨rfl, hj'⟩)
        have HJ' := Lib.hid hj'
        clear hj'
        go_roundw
        case rel => exact ⟨k + 1, by omega, by go_num, HS, HJ'⟩
        case measure => simp [intOf]; omega
    · have HS := Lib.hid (show (-1 : Int) = R by
        have h0 := hin.out
        rw [List.drop_of_length_le (by omega)] at h0
        exact h0.symm)
      clear hin HR
      go_wp2
      go_ret
      exact ⟨ret_int HS.out, hj.out⟩

set_option maxRecDepth 100000 in
set_option maxHeartbeats 400000 in
theorem contFuncInt_any (ks : List Int) (g : Nat) (r : Value) (p : Int → Bool) (J : World → Prop) (B : Nat) (ao : Option Addr) (cap : Nat) (w : World) (eg : ∀ args w, (callFunc g args).run Tryz.prog w = .ok (.enter g args) w)
    (hcap : cap ≤ maxLen) (hlen : ks.length ≤ cap) (hrow : ∀ W, J W → IntsIn W B ks (.slice ao ks.length cap)) (hp : MethOn g r p ks J) (h0 : J w) :
    Calls Tryz.prog 48 #[.slice ao ks.length cap, .func (.func g) #[r] #[]] w fun e w' => e = .returned (.bool (ks.any p)) ∧ J w' := by
  have C := Lib.hid (idxFuncInt_any ks g r p J B ao cap w eg hcap hlen hrow hp h0)
  have HA := Lib.hid (idxFrom_any p ks 0)
  change Hid (decide ((0 : Int) ≤ idxFrom p ks 0) = _) at HA
  generalize idxFrom p ks 0 = R at *
  clear hrow hp h0
  go_enter Tryz.func48, Tryz.ntmps48
  go_wp2_with (go_at_call 70; refine C.out.mono ?_; rintro e w' ⟨rfl, hj⟩)
  go_ret
  exact ⟨ret_bool HA.out, hj⟩

end Go.Proofs.YtihpoecdnchioaaGreatDoor
