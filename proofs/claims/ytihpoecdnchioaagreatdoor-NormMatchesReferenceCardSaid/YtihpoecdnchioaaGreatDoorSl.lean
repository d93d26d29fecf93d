/- The walks of slices.Index and slices.Contains at strings and at ints, of slices.IndexFunc and ContainsFunc at formulas. No conditions. -/
import Derived.Test.YtihpoecdnchioaaGreatDoorIndex
import Derived.Shelf.Abstract
namespace Go.Proofs.YtihpoecdnchioaaGreatDoor
open Go.RowKit

theorem idxFrom_any {α : Type} (p : α → Bool) : ∀ (l : List α) (k : Nat), decide ((0 : Int) ≤ idxFrom p l (k : Nat)) = l.any p
  | [], k => by simp [idxFrom]
  | x :: l, k => by
    rw [idxFrom, List.any_cons]
    cases h : p x with
    | true => simp
    | false =>
      rw [if_neg (by simp), Bool.false_or, ← idxFrom_any p l (k + 1)]
      simp

set_option maxHeartbeats 400000 in
theorem indexStr_any (l : List ByteArray) (s : ByteArray) (v : Value) (w : World) (B : Nat) (hl : StrsIn w B l v) :
    Calls Tryz.prog 65 #[v, .string s] w fun e w' => e = .returned (.int .i64 (idxFrom (fun x => eqB s x) l 0)) ∧ w = w' := by
  obtain ⟨ao, cap, rfl, h1, h2, _⟩ := SlIn.shape hl
  unfold maxLen at h2
  have HL := Lib.hid hl
  have HR : Hid (idxFrom (fun x => eqB s x) l 0 = idxFrom (fun x => eqB s x) (l.drop 0) ((0 : Nat) : Int)) := rfl
  generalize idxFrom (fun x => eqB s x) l 0 = R at *
  clear hl
  go_enter Tryz.func65, Tryz.ntmps65
  go_wp2
  go_loop [8] (fun i => ∃ k : Nat, k ≤ l.length ∧ i = .int .i64 k ∧ Hid (R = idxFrom (fun x => eqB s x) (l.drop k) (k : Nat))) (fun i => l.length - (intOf i).toNat)
  case atStart => exact ⟨0, by omega, rfl, HR⟩
  case round =>
    obtain ⟨k, hk, rfl, hin⟩ := hrel
    by_cases hlt : k < l.length
    · obtain ⟨b, off, rfl, hb, hc⟩ := SlIn.one HL.out k hlt
      have hs := hin.out
      rw [idxFrom_drop _ l k hlt] at hs
      generalize l[k] = y at *
      cases he : (s.toList == y.toList) with
      | true =>
        have HS := Lib.hid (show (k : Int) = R by rw [hs]; unfold eqB; rw [he]; rfl)
        clear hs hin HR
        go_wp2
        go_ret
        exact ⟨ret_int HS.out, rfl⟩
      | false =>
        have HS := Lib.hid (show R = idxFrom (fun x => eqB s x) (l.drop (k + 1)) ((k + 1 : Nat) : Int) by rw [hs]; unfold eqB; rw [he]; rfl)
        clear hs hin HR
        go_wp2
        go_round
        case rel => exact ⟨k + 1, by omega, by go_num, HS⟩
        case measure => simp [intOf]; omega
    · have HS := Lib.hid (show (-1 : Int) = R by
        have h0 := hin.out
        rw [List.drop_of_length_le (by omega)] at h0
        exact h0.symm)
      clear hin HR
      go_wp2
      go_ret
      exact ⟨ret_int HS.out, rfl⟩

set_option maxHeartbeats 400000 in
theorem containsStr_any (l : List ByteArray) (s : ByteArray) (v : Value) (w : World) (B : Nat) (hl : StrsIn w B l v) :
    Calls Tryz.prog 39 #[v, .string s] w fun e w' => e = .returned (.bool (l.any fun x => eqB s x)) ∧ w = w' := by
  have C := Lib.hid (indexStr_any l s v w B hl)
  have HA := Lib.hid (idxFrom_any (fun x => eqB s x) l 0)
  obtain ⟨ao, cap, rfl, h1, h2, _⟩ := SlIn.shape hl
  clear hl
  change Hid (decide ((0 : Int) ≤ idxFrom (fun x => eqB s x) l 0) = _) at HA
  generalize idxFrom (fun x => eqB s x) l 0 = R at *
  go_enter Tryz.func39, Tryz.ntmps39
  go_wp2_with (go_at_call 65; refine C.out.mono ?_; rintro e w' ⟨rfl, rfl⟩)
  go_ret
  exact ⟨ret_bool HA.out, rfl⟩

set_option maxHeartbeats 400000 in
theorem indexInt_any (l : List Int) (s : Int) (v : Value) (w : World) (B : Nat) (hl : IntsIn w B l v) :
    Calls Tryz.prog 54 #[v, .int .i64 s] w fun e w' => e = .returned (.int .i64 (idxFrom (fun x => s == x) l 0)) ∧ w = w' := by
  obtain ⟨ao, cap, rfl, h1, h2, _⟩ := SlIn.shape hl
  unfold maxLen at h2
  have HL := Lib.hid hl
  have HR : Hid (idxFrom (fun x => s == x) l 0 = idxFrom (fun x => s == x) (l.drop 0) ((0 : Nat) : Int)) := rfl
  generalize idxFrom (fun x => s == x) l 0 = R at *
  clear hl
  go_enter Tryz.func54, Tryz.ntmps54
  go_wp2
  go_loop [8] (fun i => ∃ k : Nat, k ≤ l.length ∧ i = .int .i64 k ∧ Hid (R = idxFrom (fun x => s == x) (l.drop k) (k : Nat))) (fun i => l.length - (intOf i).toNat)
  case atStart => exact ⟨0, by omega, rfl, HR⟩
  case round =>
    obtain ⟨k, hk, rfl, hin⟩ := hrel
    by_cases hlt : k < l.length
    · obtain ⟨b, off, rfl, hb, hc⟩ := SlIn.one HL.out k hlt
      have hs := hin.out
      rw [idxFrom_drop _ l k hlt] at hs
      generalize l[k] = y at *
      cases he : (s == y) with
      | true =>
        have HS := Lib.hid (show (k : Int) = R by rw [hs, he]; rfl)
        clear hs hin HR
        go_wp2
        go_ret
        exact ⟨ret_int HS.out, rfl⟩
      | false =>
        have HS := Lib.hid (show R = idxFrom (fun x => s == x) (l.drop (k + 1)) ((k + 1 : Nat) : Int) by rw [hs, he]; rfl)
        clear hs hin HR
        go_wp2
        go_round
        case rel => exact ⟨k + 1, by omega, by go_num, HS⟩
        case measure => simp [intOf]; omega
    · have HS := Lib.hid (show (-1 : Int) = R by
        have h0 := hin.out
        rw [List.drop_of_length_le (by omega)] at h0
        exact h0.symm)
      clear hin HR
      go_wp2
      go_ret
      exact ⟨ret_int HS.out, rfl⟩

set_option maxHeartbeats 400000 in
theorem containsInt_any (l : List Int) (s : Int) (v : Value) (w : World) (B : Nat) (hl : IntsIn w B l v) :
    Calls Tryz.prog 52 #[v, .int .i64 s] w fun e w' => e = .returned (.bool (l.any fun x => s == x)) ∧ w = w' := by
  have C := Lib.hid (indexInt_any l s v w B hl)
  have HA := Lib.hid (idxFrom_any (fun x => s == x) l 0)
  obtain ⟨ao, cap, rfl, h1, h2, _⟩ := SlIn.shape hl
  clear hl
  change Hid (decide ((0 : Int) ≤ idxFrom (fun x => s == x) l 0) = _) at HA
  generalize idxFrom (fun x => s == x) l 0 = R at *
  go_enter Tryz.func52, Tryz.ntmps52
  go_wp2_with (go_at_call 54; refine C.out.mono ?_; rintro e w' ⟨rfl, rfl⟩)
  go_ret
  exact ⟨ret_bool HA.out, rfl⟩

/-- a function value applied to the elements of a row: what a call of it does, J being kept -/
abbrev FnOn {α : Type} (g : Nat) (lb : Array Value) (val : World → α → Value → Prop) (p : α → Bool) (l : List α) (J : World → Prop) : Prop :=
  ∀ (W : World) (x : α) (v : Value), x ∈ l → J W → val W x v → Calls Tryz.prog g (#[v] ++ lb) W fun e W' => e = .returned (.bool (p x)) ∧ J W'

set_option maxRecDepth 100000 in
set_option maxHeartbeats 400000 in
theorem idxFuncFo_any (ks : List Fo) (g : Nat) (lb : Array Value) (p : Fo → Bool) (J : World → Prop) (B : Nat) (ao : Option Addr) (cap : Nat) (w : World) (eg : ∀ args w, (callFunc g args).run Tryz.prog w = .ok (.enter g args) w)
    (hcap : cap ≤ maxLen) (hlen : ks.length ≤ cap) (hrow : ∀ W, J W → ks ≠ [] → ∃ b off, ao = some ⟨b, off, none⟩ ∧ Fo.InL W B ks b off) (hp : FnOn g lb (fun W x v => Fo.In W B x v) p ks J) (h0 : J w) :
    Calls Tryz.prog 66 #[.slice ao ks.length cap, .func (.func g) #[] lb] w fun e w' => e = .returned (.int .i64 (idxFrom p ks 0)) ∧ J w' := by
  unfold maxLen at hcap
  have HR : Hid (idxFrom p ks 0 = idxFrom p (ks.drop 0) ((0 : Nat) : Int)) := rfl
  have HP := Lib.hid hp
  have HW := Lib.hid hrow
  have HJ0 := Lib.hid h0
  generalize idxFrom p ks 0 = R at *
  clear hp hrow h0
  go_enter Tryz.func66, Tryz.ntmps66
  go_wp2
  go_loopw [8] (fun i wr => ∃ k : Nat, k ≤ ks.length ∧ i = .int .i64 k ∧ Hid (R = idxFrom p (ks.drop k) (k : Nat)) ∧ Hid (J wr)) (fun i _ => ks.length - (intOf i).toNat)
  case atStart => exact ⟨0, by omega, rfl, HR, HJ0⟩
  case round =>
    obtain ⟨k, hk, rfl, hin, hj⟩ := hrel
    by_cases hlt : k < ks.length
    · obtain ⟨b, off, rfl, hL⟩ := HW.out wr hj.out (by intro h; simp [h] at hlt)
      obtain ⟨ka, kc, g0, g1, g2, g3, g4, gk⟩ := Fo.InL.get ks off k hlt hL
      have hs := hin.out
      rw [idxFrom_drop _ ks k hlt] at hs
      have HC := Lib.hid (HP.out wr ks[k] _ (List.getElem_mem _) hj.out gk)
      generalize ks[k] = y at *
      have HJ := hj
      clear gk hL hj
      cases he : p y with
      | true =>
        have HS := Lib.hid (show (k : Int) = R by rw [hs, he]; rfl)
        rw [he] at HC
        clear hs hin HR
        go_wp2_with (go_at_fn g; refine HC.out.mono ?_; rintro e w' ⟨rfl, hj'⟩)
        go_ret
        exact ⟨ret_int HS.out, hj'⟩
      | false =>
        have HS := Lib.hid (show R = idxFrom p (ks.drop (k + 1)) ((k + 1 : Nat) : Int) by rw [hs, he]; rfl)
        rw [he] at HC
        clear hs hin HR
        go_wp2_with (go_at_fn g; refine HC.out.mono ?_; rintro e w' ⟨rfl, hj'⟩)
        have HJ' := Lib.hid hj'
        clear hj'
        go_roundw
        case rel => exact ⟨k + 1, by omega, by go_num, HS, HJ'⟩
        case measure => simp [intOf]; omega
    · have HS := Lib.hid (show (-1 : Int) = R by
        have h0 := hin.out
        rw [List.drop_of_length_le (by omega)] at h0
        exact h0.symm)
      clear hin HR
      go_wp2
      go_ret
      exact ⟨ret_int HS.out, hj.out⟩

set_option maxHeartbeats 400000 in
theorem contFuncFo_any (ks : List Fo) (g : Nat) (lb : Array Value) (p : Fo → Bool) (J : World → Prop) (B : Nat) (ao : Option Addr) (cap : Nat) (w : World) (eg : ∀ args w, (callFunc g args).run Tryz.prog w = .ok (.enter g args) w)
    (hcap : cap ≤ maxLen) (hlen : ks.length ≤ cap) (hrow : ∀ W, J W → ks ≠ [] → ∃ b off, ao = some ⟨b, off, none⟩ ∧ Fo.InL W B ks b off) (hp : FnOn g lb (fun W x v => Fo.In W B x v) p ks J) (h0 : J w) :
    Calls Tryz.prog 40 #[.slice ao ks.length cap, .func (.func g) #[] lb] w fun e w' => e = .returned (.bool (ks.any p)) ∧ J w' := by
  have C := Lib.hid (idxFuncFo_any ks g lb p J B ao cap w eg hcap hlen hrow hp h0)
  have HA := Lib.hid (idxFrom_any p ks 0)
  change Hid (decide ((0 : Int) ≤ idxFrom p ks 0) = _) at HA
  generalize idxFrom p ks 0 = R at *
  clear hrow hp h0
  go_enter Tryz.func40, Tryz.ntmps40
  go_wp2_with (go_at_call 66; refine C.out.mono ?_; rintro e w' ⟨rfl, hj⟩)
  go_ret
  exact ⟨ret_bool HA.out, hj⟩

end Go.Proofs.YtihpoecdnchioaaGreatDoor
