/- How the plain data of the laws (formulas, facts, provisions) lie in the model's memory: predicates on worlds that a later world keeps. No conditions. -/
import Derived.Test.YtihpoecdnchioaaGreatDoorProg
import Derived.WalkKit
import Derived.WalkSpells
import Derived.WalkLawsBesides
import Derived.Lib.Hide
namespace Go.Proofs.YtihpoecdnchioaaGreatDoor
open Go.RowKit

theorem ret_int {k : IntKind} {a b : Int} (h : a = b) : Ending.returned (.int k a) = .returned (.int k b) := by rw [h]
theorem ret_int2 {k k' : IntKind} {a b c d : Int} (h : a = b) (h' : c = d) : Ending.returned (.tuple #[.int k a, .int k' c]) = .returned (.tuple #[.int k b, .int k' d]) := by rw [h, h']
theorem ret_bool {a b : Bool} (h : a = b) : Ending.returned (.bool a) = .returned (.bool b) := by rw [h]

/-- two texts are equal, as the walk spells it -/
def eqB (a b : ByteArray) : Bool := a.toList == b.toList

/-- a number of int64 -/
def W64 (n : Int) : Prop := -9223372036854775808 ≤ n ∧ n ≤ 9223372036854775807

/-- a formula as plain data -/
inductive Fo where
  | mk (op : Int) (name : ByteArray) (cmp n : Int) (kids : List Fo)
  deriving Inhabited

def Fo.op : Fo → Int | .mk op _ _ _ _ => op
def Fo.name : Fo → ByteArray | .mk _ nm _ _ _ => nm
def Fo.cmp : Fo → Int | .mk _ _ c _ _ => c
def Fo.n : Fo → Int | .mk _ _ _ n _ => n
def Fo.kids : Fo → List Fo | .mk _ _ _ _ ks => ks

mutual
/-- a formula lies in the world below block B: its value's parts; o: where its kids lie -/
def Fo.In (w : World) (B : Nat) : Fo → Value → Prop
  | .mk op nm c n ks, v => ∃ (ao : Option Addr) (cap : Nat), v = .agg #[.int .i64 op, .string nm, .int .i64 c, .int .i64 n, .slice ao ks.length cap] ∧
      W64 op ∧ W64 c ∧ W64 n ∧ nm.size ≤ maxLen ∧ ks.length ≤ cap ∧ cap ≤ maxLen ∧ (ks ≠ [] → ∃ b off, ao = some ⟨b, off, none⟩ ∧ b < B ∧ Fo.InL w B ks b off)
def Fo.InL (w : World) (B : Nat) : List Fo → Nat → Nat → Prop
  | [], _, _ => True
  | k :: ks, b, off => (∃ v0 v1 v2 v3 v4, w.cell? ⟨b, off, none⟩ = some v0 ∧ w.cell? ⟨b, off + 1, none⟩ = some v1 ∧ w.cell? ⟨b, off + 2, none⟩ = some v2 ∧
      w.cell? ⟨b, off + 3, none⟩ = some v3 ∧ w.cell? ⟨b, off + 4, none⟩ = some v4 ∧ Fo.In w B k (.agg #[v0, v1, v2, v3, v4])) ∧ Fo.InL w B ks b (off + 5)
end

mutual
theorem Fo.In.below {w w' : World} {B : Nat} (hb : Below B w w') : ∀ (f : Fo) (v : Value), f.In w B v → f.In w' B v
  | .mk op nm c n ks, v => by
    rintro ⟨ao, cap, hv, h1, h2, h3, h4, h5, h6, h7⟩
    refine ⟨ao, cap, hv, h1, h2, h3, h4, h5, h6, fun hne => ?_⟩
    obtain ⟨b, off, ha, hlt, hL⟩ := h7 hne
    exact ⟨b, off, ha, hlt, Fo.InL.below hb hlt ks off hL⟩
theorem Fo.InL.below {w w' : World} {B b : Nat} (hb : Below B w w') (hlt : b < B) : ∀ (ks : List Fo) (off : Nat), Fo.InL w B ks b off → Fo.InL w' B ks b off
  | [], _ => fun _ => trivial
  | k :: ks, off => by
    rintro ⟨⟨v0, v1, v2, v3, v4, c0, c1, c2, c3, c4, hk⟩, hks⟩
    refine ⟨⟨v0, v1, v2, v3, v4, ?_, ?_, ?_, ?_, ?_, Fo.In.below hb k _ hk⟩, Fo.InL.below hb hlt ks (off + 5) hks⟩ <;> (rw [hb.cell (by exact hlt)]; assumption)
end

/-- element i of a row of formulas: its five cells -/
theorem Fo.InL.get {w : World} {B b : Nat} : ∀ (ks : List Fo) (off i : Nat) (hi : i < ks.length), Fo.InL w B ks b off →
    ∃ (ao : Option Addr) (cap : Nat), w.cell? ⟨b, off + i * 5, none⟩ = some (.int .i64 ks[i].op) ∧ w.cell? ⟨b, off + i * 5 + 1, none⟩ = some (.string ks[i].name) ∧
      w.cell? ⟨b, off + i * 5 + 2, none⟩ = some (.int .i64 ks[i].cmp) ∧ w.cell? ⟨b, off + i * 5 + 3, none⟩ = some (.int .i64 ks[i].n) ∧
      w.cell? ⟨b, off + i * 5 + 4, none⟩ = some (.slice ao ks[i].kids.length cap) ∧
      ks[i].In w B (.agg #[.int .i64 ks[i].op, .string ks[i].name, .int .i64 ks[i].cmp, .int .i64 ks[i].n, .slice ao ks[i].kids.length cap])
  | k :: ks, off, 0, _ => by
    rintro ⟨⟨v0, v1, v2, v3, v4, c0, c1, c2, c3, c4, hk⟩, _⟩
    obtain ⟨op, nm, c, n, kk⟩ := k
    have hk' := hk
    obtain ⟨ao, cap, hv, _⟩ := hk
    simp only [Value.agg.injEq, Array.mk.injEq, List.cons.injEq, and_true] at hv
    obtain ⟨rfl, rfl, rfl, rfl, rfl⟩ := hv
    exact ⟨ao, cap, by simpa [Fo.op, Fo.name, Fo.cmp, Fo.n, Fo.kids] using c0, by simpa [Fo.op, Fo.name, Fo.cmp, Fo.n, Fo.kids] using c1, by simpa [Fo.op, Fo.name, Fo.cmp, Fo.n, Fo.kids] using c2, by simpa [Fo.op, Fo.name, Fo.cmp, Fo.n, Fo.kids] using c3, by simpa [Fo.op, Fo.name, Fo.cmp, Fo.n, Fo.kids] using c4, by simpa [Fo.op, Fo.name, Fo.cmp, Fo.n, Fo.kids] using hk'⟩
  | k :: ks, off, i + 1, hi => by
    rintro ⟨_, hks⟩
    have := Fo.InL.get ks (off + 5) i (by simpa using hi) hks
    simpa [Nat.add_mul, Nat.add_assoc, Nat.add_comm, Nat.add_left_comm] using this

/-- the parts of a formula's value -/
theorem Fo.In.shape {w : World} {B : Nat} {f : Fo} {v : Value} (h : f.In w B v) :
    ∃ (ao : Option Addr) (cap : Nat), v = .agg #[.int .i64 f.op, .string f.name, .int .i64 f.cmp, .int .i64 f.n, .slice ao f.kids.length cap] := by
  obtain ⟨op, nm, c, n, ks⟩ := f
  obtain ⟨ao, cap, rfl, _⟩ := h
  exact ⟨ao, cap, rfl⟩

mutual
/-- the number of nodes -/
def Fo.size : Fo → Nat
  | .mk _ _ _ _ ks => Fo.sizeL ks + 1
def Fo.sizeL : List Fo → Nat
  | [] => 0
  | k :: ks => k.size + Fo.sizeL ks
end

theorem Fo.size_pos (f : Fo) : 1 ≤ f.size := by cases f; simp [Fo.size]

theorem Fo.size_get : ∀ (ks : List Fo) (i : Nat) (h : i < ks.length), ks[i].size ≤ Fo.sizeL ks
  | k :: ks, 0, _ => by simp [Fo.sizeL]
  | k :: ks, i + 1, h => by
    have := Fo.size_get ks i (by simpa using h)
    simp [Fo.sizeL]; omega

mutual
def countF : Fo → Int → Int
  | .mk _ _ _ _ ks, most => countL ks most 1
def countL : List Fo → Int → Int → Int
  | [], _, n => n
  | k :: ks, most, n => if n ≤ most then countL ks most (n + countF k (most - n)) else n
end

end Go.Proofs.YtihpoecdnchioaaGreatDoor
