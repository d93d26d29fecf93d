/- The lexer's iterator over tokens, walked inside a fence. Said of it: what is needed to know whether a text is one name. -/
import Derived.Test.YtihpoecdnchioaaGreatDoorIter
import Derived.Sort.CutIn
namespace Go.Proofs.YtihpoecdnchioaaGreatDoor
open Go.RowKit
attribute [local go_sem] Oper.semAt_some

/-- a block of cells -/
def Blk (W : World) (B : Nat) (t : TypeId) (cs : Array Value) : Prop := W.heap[B]? = some (.cells cs t (0, 0))
theorem Blk.lt {W : World} {B : Nat} {t : TypeId} {cs : Array Value} (h : Blk W B t cs) : B < W.heap.size := (Array.getElem?_eq_some_iff.1 h).1
theorem Blk.cell {W : World} {B : Nat} {t : TypeId} {cs : Array Value} (h : Blk W B t cs) (i : Nat) : W.cell? ⟨B, i, none⟩ = cs[i]? := by simp [World.cell?, show W.heap[B]? = _ from h]
theorem Blk.frozen {W : World} {B : Nat} {t : TypeId} {cs : Array Value} (h : Blk W B t cs) (i : Nat) : W.frozen? ⟨B, i, none⟩ = false := by simp [World.frozen?, show W.heap[B]? = _ from h]
theorem Blk.new (W : World) (t : TypeId) (cs : Array Value) : Blk (W.alloc (.cells cs t)) W.heap.size t cs := World.alloc_heap_new W _
theorem Blk.below {W W' : World} {B : Nat} {t : TypeId} {cs : Array Value} (h : Blk W B t cs) (hb : Below W.heap.size W W') : Blk W' B t cs := (hb.block B h.lt).trans h
theorem Blk.set {W : World} {B : Nat} {t : TypeId} {cs : Array Value} (h : Blk W B t cs) (i : Nat) (v : Value) : Blk (W.setCell ⟨B, i, none⟩ v) B t (cs.setIfInBounds i v) := by
  obtain ⟨hlt, hk⟩ := Array.getElem?_eq_some_iff.1 h
  show (W.heap.modify B _)[B]? = _
  rw [Array.getElem?_eq_getElem (by rw [Array.size_modify]; exact hlt), Array.getElem_modify_self, hk]
  rfl

/-- what the lexer finds: a token's kind, text, number and offset; what is wrong -/
structure Fd where
  kind : Nat
  text : ByteArray
  n : Nat
  at_ : Nat
  err : Nat
def Fd.cells (x : Fd) : Array Value := #[.int .i64 x.kind, .string x.text, .int .i64 x.n, .int .i64 x.at_, .int .i64 x.err]
def tokF (s : ByteArray) : Fd := ⟨1, s, 0, 0, 0⟩
/-- a token of a text: where it is the whole text, and a name, the text is one -/
def FdOk (s : ByteArray) (x : Fd) : Prop := x.kind = 1 → x.err = 0 → x.text = s → nameB s = true
abbrev FdS (s : ByteArray) := { x : Fd // FdOk s x }

theorem atC_lt (s : ByteArray) (i : Nat) (h : i < s.size) : atC s i = clsB s[i].toNat := by unfold atC; rw [dif_pos h]
theorem atC_ge (s : ByteArray) (i : Nat) (h : ¬ i < s.size) : atC s i = 0 := by unfold atC; rw [dif_neg h]

/-- the class of a byte tells whether it may stand in a name -/
theorem cls_word (c : Nat) (h : c < 256) : (okB 0 c = decide (clsB c = 3)) ∧ ∀ k, k ≠ 0 → okB k c = decide (clsB c = 3 ∨ clsB c = 4 ∨ clsB c = 5) := by
  have h0 : ∀ c : Fin 256, okB 0 c.1 = decide (clsB c.1 = 3) ∧ okB 1 c.1 = decide (clsB c.1 = 3 ∨ clsB c.1 = 4 ∨ clsB c.1 = 5) := by decide +kernel
  refine ⟨(h0 ⟨c, h⟩).1, fun k hk => ?_⟩
  rw [← (h0 ⟨c, h⟩).2]
  unfold okB
  simp [hk]
theorem cls_le (c : Nat) (h : c < 256) : clsB c ≤ 8 := by
  have h0 : ∀ c : Fin 256, clsB c.1 ≤ 8 := by decide +kernel
  exact h0 ⟨c, h⟩
theorem atC_le (s : ByteArray) (i : Nat) : atC s i ≤ 8 := by
  unfold atC
  split
  · exact cls_le _ (UInt8.toNat_lt _)
  · omega

/-- a byte of a name -/
abbrev isW (n : Nat) : Prop := n = 3 ∨ n = 4 ∨ n = 5
theorem okAll_iff (s : ByteArray) (k : Nat) (hk : k ≤ s.size) : okAll (s.data.toList.drop k) k = true ↔ ∀ i, k ≤ i → i < s.size → (i = 0 → atC s i = 3) ∧ isW (atC s i) := by
  obtain ⟨d, hd⟩ : ∃ d, s.size - k = d := ⟨_, rfl⟩
  induction d generalizing k with
  | zero =>
    rw [List.drop_of_length_le (by simp; omega), okAll]
    exact ⟨fun _ i h1 h2 => by omega, fun _ => rfl⟩
  | succ d ih =>
    have hlt : k < s.size := by omega
    rw [okAll_drop s k hlt, Bool.and_eq_true, ih (k + 1) (by omega) (by omega)]
    have hc := cls_word s[k].toNat (UInt8.toNat_lt _)
    have ha := atC_lt s k hlt
    constructor
    · rintro ⟨h1, h2⟩ i hi1 hi2
      by_cases hik : i = k
      · subst hik
        by_cases h0 : i = 0
        · subst h0
          rw [hc.1] at h1
          have := of_decide_eq_true h1
          rw [ha]
          exact ⟨fun _ => this, .inl this⟩
        · rw [hc.2 i h0] at h1
          rw [ha]
          exact ⟨fun h => absurd h h0, of_decide_eq_true h1⟩
      · exact h2 i (by omega) hi2
    · intro h
      refine ⟨?_, fun i h1 h2 => h i (by omega) h2⟩
      obtain ⟨h3, h4⟩ := h k (Nat.le_refl _) hlt
      rw [ha] at h3 h4
      by_cases h0 : k = 0
      · subst h0; rw [hc.1]; exact decide_eq_true (h3 rfl)
      · rw [hc.2 k h0]; exact decide_eq_true (show clsB s[k].toNat = 3 ∨ clsB s[k].toNat = 4 ∨ clsB s[k].toNat = 5 from h4)

theorem nameB_iff (s : ByteArray) : nameB s = true ↔ 0 < s.size ∧ s.size ≤ 24 ∧ atC s 0 = 3 ∧ ∀ i, i < s.size → isW (atC s i) := by
  unfold nameB
  rw [Bool.and_eq_true, Bool.and_eq_true, isEmpty_size]
  have := okAll_iff s 0 (Nat.zero_le _)
  rw [List.drop_zero] at this
  rw [this]
  constructor
  · rintro ⟨⟨h1, h2⟩, h3⟩
    have h4 : 0 < s.size := by
      have h2' : decide (s.size = 0) = false := by simpa using h2
      have := of_decide_eq_false h2'
      omega
    exact ⟨h4, of_decide_eq_true h3, (h1 0 (Nat.le_refl _) h4).1 rfl, fun i hi => (h1 i (Nat.zero_le _) hi).2⟩
  · rintro ⟨h1, h2, h3, h4⟩
    exact ⟨⟨fun i _ hi => ⟨fun h0 => by rw [h0]; exact h3, h4 i hi⟩, by rw [decide_eq_false (by omega)]; rfl⟩, decide_eq_true h2⟩

/-- the piece of a text is the whole -/
theorem extract_whole (s : ByteArray) (k k' : Nat) (h : k' ≤ s.size) (he : s.extract k k' = s) (hs : 0 < s.size) : k = 0 ∧ k' = s.size := by
  have := congrArg ByteArray.size he
  rw [ByteArray.size_extract] at this
  omega
theorem extract_all (s : ByteArray) : s.extract 0 s.size = s := by
  have := ByteArray.extract_zero_size (b := s)
  exact this

end Go.Proofs.YtihpoecdnchioaaGreatDoor
