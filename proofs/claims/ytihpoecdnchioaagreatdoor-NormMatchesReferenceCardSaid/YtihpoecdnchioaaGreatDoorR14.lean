/- The walks of pandectref14.In, Same, Lists. No conditions. -/
import Derived.Test.YtihpoecdnchioaaGreatDoorMem2
import Derived.Deep.QuietTactic
import Derived.BigQuiet
namespace Go.Proofs.YtihpoecdnchioaaGreatDoor
open Go.RowKit

def inB (l : List ByteArray) (s : ByteArray) : Bool := l.any fun x => eqB x s
def sameB : List ByteArray → List ByteArray → Bool
  | [], [] => true
  | a :: l, b :: m => eqB a b && sameB l m
  | _, _ => false
def listsB : List (List ByteArray) → List (List ByteArray) → Bool
  | [], [] => true
  | a :: l, b :: m => sameB a b && listsB l m
  | _, _ => false

theorem inB_take (l : List ByteArray) (s : ByteArray) (k : Nat) (h : k < l.length) : inB (l.take (k + 1)) s = (inB (l.take k) s || eqB l[k] s) := by
  unfold inB; rw [List.take_succ_eq_append_getElem h, List.any_append, List.any_cons, List.any_nil, Bool.or_false]

set_option maxHeartbeats 400000 in
theorem in_any (l : List ByteArray) (s : ByteArray) (v : Value) (w : World) (B : Nat) (hl : StrsIn w B l v) :
    Calls Tryz.prog 21 #[v, .string s] w fun e w' => e = .returned (.bool (inB l s)) ∧ w = w' := by
  obtain ⟨ao, cap, rfl, h1, h2, h3⟩ := SlIn.shape hl
  unfold maxLen at h2
  clear h3
  have HL := Lib.hid hl
  clear hl
  go_enter Tryz.func21, Tryz.ntmps21
  go_wp2
  go_loop [5] (fun i => ∃ k : Nat, k ≤ l.length ∧ i = .int .i64 k ∧ Hid (inB (l.take k) s = false)) (fun i => l.length - (intOf i).toNat)
  case atStart => exact ⟨0, by omega, rfl, rfl⟩
  case round =>
    obtain ⟨k, hk, rfl, hin⟩ := hrel
    by_cases hlt : k < l.length
    · obtain ⟨b, off, rfl, hb, hc⟩ : ∃ b off, ao = some ⟨b, off, none⟩ ∧ b < B ∧ w.cell? ⟨b, off + k, none⟩ = some (.string l[k]) := by
        obtain ⟨_, _, h1, _, _, h4⟩ := HL.out
        obtain ⟨b, off, ha, hlt', hc⟩ := h4 (by intro e; simp [e] at hlt)
        simp only [Value.slice.injEq] at h1
        exact ⟨b, off, by rw [h1.1, ha], hlt', by simpa [OneR] using hc k hlt⟩
      have hs := inB_take l s k hlt
      rw [hin.out, Bool.false_or] at hs
      by_cases he : (l[k].toList == s.toList) = true
      · have HS : Hid (inB l s = true) := by
          show List.any _ _ = true
          rw [List.any_eq_true]
          exact ⟨l[k], List.getElem_mem _, he⟩
        clear hs
        go_wp2
        go_ret
        exact ⟨ret_bool HS.out.symm, rfl⟩
      · have he' : (l[k].toList == s.toList) = false := by simpa using he
        have HS : Hid (inB (l.take (k + 1)) s = false) := by rw [hs]; exact he'
        clear hs he
        go_wp2
        go_round
        case rel => exact ⟨k + 1, by omega, by go_num, HS⟩
        case measure => simp [intOf]; omega
    · have HS : Hid (inB l s = false) := by have := hin.out; rwa [List.take_of_length_le (by omega)] at this
      clear hin
      go_wp2
      go_ret
      exact ⟨ret_bool HS.out.symm, rfl⟩

theorem sameB_lens : ∀ (l m : List ByteArray), l.length ≠ m.length → sameB l m = false
  | [], [], h => absurd rfl h
  | [], b :: m, _ => rfl
  | a :: l, [], _ => rfl
  | a :: l, b :: m, h => by simp only [sameB, sameB_lens l m (by simpa using h), Bool.and_false]

theorem sameB_drop (l m : List ByteArray) (k : Nat) (h : k < l.length) (h' : k < m.length) : sameB (l.drop k) (m.drop k) = (eqB l[k] m[k] && sameB (l.drop (k + 1)) (m.drop (k + 1))) := by
  rw [List.drop_eq_getElem_cons h, List.drop_eq_getElem_cons h', sameB]

set_option maxHeartbeats 400000 in
theorem same_any (l m : List ByteArray) (v u : Value) (w : World) (B : Nat) (hl : StrsIn w B l v) (hm : StrsIn w B m u) :
    Calls Tryz.prog 16 #[v, u] w fun e w' => e = .returned (.bool (sameB l m)) ∧ ∃ n, w' = w.drewN n := by
  obtain ⟨ao, cap, rfl, h1, h2, _⟩ := SlIn.shape hl
  obtain ⟨bo, cap', rfl, h1', h2', _⟩ := SlIn.shape hm
  unfold maxLen at h2 h2'
  have HL := Lib.hid hl
  have HM := Lib.hid hm
  clear hl hm
  by_cases hlen : l.length = m.length
  · have hd : ((l.length : Int) != m.length) = false := by simp [hlen]
    have HE := Lib.hid hlen
    clear hlen
    go_enter Tryz.func16, Tryz.ntmps16
    go_wp2
    go_loopw [5] (fun i wr => ∃ k n : Nat, k ≤ l.length ∧ i = .int .i64 k ∧ Hid (sameB (l.drop k) (m.drop k) = sameB l m) ∧ wr = w.drewN n) (fun i _ => l.length - (intOf i).toNat)
    case atStart => exact ⟨0, 0, by omega, rfl, rfl, rfl⟩
    case round =>
      obtain ⟨k, n, hk, rfl, hin, rfl⟩ := hrel
      by_cases hlt : k < l.length
      · have hlt' : k < m.length := by have := HE.out; omega
        obtain ⟨b, off, rfl, hb, hc⟩ := SlIn.one HL.out k hlt
        obtain ⟨b', off', rfl, hb', hc'⟩ := SlIn.one HM.out k hlt'
        have hs := sameB_drop l m k hlt hlt'
        rw [hin.out] at hs
        by_cases he : (l[k].toList == m[k].toList) = true
        · have HS : Hid (sameB (l.drop (k + 1)) (m.drop (k + 1)) = sameB l m) := by rw [hs]; unfold eqB; rw [he, Bool.true_and]; rfl
          have he' : (l[k].toList != m[k].toList) = false := by simpa using he
          clear hs hin
          go_wp2
          go_quiet (fail)
          go_wp2
          go_roundw
          case rel => exact ⟨k + 1, _, by omega, by go_num, HS, rfl⟩
          case measure => simp [intOf]; omega
        · have HS : Hid (sameB l m = false) := by rw [hs]; unfold eqB; rw [Bool.eq_false_iff.2 he, Bool.false_and]; rfl
          have he' : (l[k].toList != m[k].toList) = true := by simpa using he
          have he2 : (l[k].toList == m[k].toList) = false := by simpa using he
          clear hs hin he
          go_wp2
          go_quiet (fail)
          go_wp2
          go_ret
          exact ⟨ret_bool HS.out.symm, n + nq, by simp⟩
      · have HS : Hid (sameB l m = true) := by
          have h0 := hin.out
          rw [List.drop_of_length_le (by omega), List.drop_of_length_le (by have := HE.out; omega)] at h0
          exact h0.symm
        clear hin
        go_wp2
        go_ret
        exact ⟨ret_bool HS.out.symm, _, rfl⟩
  · have HS := Lib.hid (sameB_lens l m hlen)
    have hd : ((l.length : Int) != m.length) = true := by rw [bne_iff_ne]; omega
    clear hlen
    go_enter Tryz.func16, Tryz.ntmps16
    go_wp2
    go_ret
    exact ⟨ret_bool HS.out.symm, 0, rfl⟩

theorem listsB_lens : ∀ (l m : List (List ByteArray)), l.length ≠ m.length → listsB l m = false
  | [], [], h => absurd rfl h
  | [], b :: m, _ => rfl
  | a :: l, [], _ => rfl
  | a :: l, b :: m, h => by simp only [listsB, listsB_lens l m (by simpa using h), Bool.and_false]

theorem listsB_drop (l m : List (List ByteArray)) (k : Nat) (h : k < l.length) (h' : k < m.length) : listsB (l.drop k) (m.drop k) = (sameB l[k] m[k] && listsB (l.drop (k + 1)) (m.drop (k + 1))) := by
  rw [List.drop_eq_getElem_cons h, List.drop_eq_getElem_cons h', listsB]

set_option maxHeartbeats 400000 in
theorem lists_any (l m : List (List ByteArray)) (v u : Value) (w : World) (B : Nat) (hl : StrssIn w B l v) (hm : StrssIn w B m u) :
    Calls Tryz.prog 17 #[v, u] w fun e w' => e = .returned (.bool (listsB l m)) ∧ ∃ n, w' = w.drewN n := by
  obtain ⟨ao, cap, rfl, h1, h2, _⟩ := SlIn.shape hl
  obtain ⟨bo, cap', rfl, h1', h2', _⟩ := SlIn.shape hm
  unfold maxLen at h2 h2'
  have HL := Lib.hid hl
  have HM := Lib.hid hm
  clear hl hm
  by_cases hlen : l.length = m.length
  · have hd : ((l.length : Int) != m.length) = false := by simp [hlen]
    have HE := Lib.hid hlen
    clear hlen
    go_enter Tryz.func17, Tryz.ntmps17
    go_wp2
    go_loopw [5] (fun i wr => ∃ k : Nat, k ≤ l.length ∧ i = .int .i64 k ∧ Hid (listsB (l.drop k) (m.drop k) = listsB l m) ∧ Hid (∃ n, wr = w.drewN n)) (fun i _ => l.length - (intOf i).toNat)
    case atStart => exact ⟨0, by omega, rfl, rfl, 0, rfl⟩
    case round =>
      obtain ⟨k, hk, rfl, hin, hw⟩ := hrel
      have hbw : Below B w wr := by obtain ⟨n, rfl⟩ := hw.out; exact World.drewN_below _ _ _
      by_cases hlt : k < l.length
      · have hlt' : k < m.length := by have := HE.out; omega
        obtain ⟨b, off, aa, ca, rfl, hb, hc, hla⟩ := SlIn.row (HL.out.below (SlR.kept (OneR.kept _) _) hbw) k hlt
        obtain ⟨b', off', aa', ca', rfl, hb', hc', hla'⟩ := SlIn.row (HM.out.below (SlR.kept (OneR.kept _) _) hbw) k hlt'
        have hs := listsB_drop l m k hlt hlt'
        rw [hin.out] at hs
        have C := fun q => Lib.hid (same_any _ _ _ _ (wr.drewN q) B (StrsIn.below (World.drewN_below _ _ _) hla) (StrsIn.below (World.drewN_below _ _ _) hla'))
        clear hla hla'
        cases he : sameB l[k] m[k] with
        | true =>
          rw [he, Bool.true_and] at hs
          have HS := Lib.hid hs.symm
          rw [he] at C
          clear hs hin he
          go_wp2
          go_quiet ((go_at_call 16; exact Calls.quiet_of (C _).out))
          go_wp2
          go_roundw
          case rel => exact ⟨k + 1, by omega, by go_num, HS, drew_more hw.out⟩
          case measure => simp [intOf]; omega
        | false =>
          rw [he, Bool.false_and] at hs
          have HS := Lib.hid hs
          rw [he] at C
          clear hs hin he
          go_wp2
          go_quiet ((go_at_call 16; exact Calls.quiet_of (C _).out))
          go_wp2
          go_ret
          exact ⟨ret_bool HS.out.symm, drew_more hw.out⟩
      · have HS : Hid (listsB l m = true) := by
          have h0 := hin.out
          rw [List.drop_of_length_le (by omega), List.drop_of_length_le (by have := HE.out; omega)] at h0
          exact h0.symm
        clear hin
        go_wp2
        go_ret
        exact ⟨ret_bool HS.out.symm, hw.out⟩
  · have HS := Lib.hid (listsB_lens l m hlen)
    have hd : ((l.length : Int) != m.length) = true := by rw [bne_iff_ne]; omega
    clear hlen
    go_enter Tryz.func17, Tryz.ntmps17
    go_wp2
    go_ret
    exact ⟨ret_bool HS.out.symm, 0, rfl⟩

end Go.Proofs.YtihpoecdnchioaaGreatDoor
