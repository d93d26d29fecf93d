/- A range over a function, inside a fence: a scope without jumps; what a round keeps, by the types of blocks. Of no program. -/
import Derived.RangeFuncNested
import Derived.RangeFuncBound
import Derived.RangeFuncCalls
import Derived.RangeFuncLeaves
import Derived.OwnWalkIn
import Derived.TacticsInMore
import Derived.LoopNIn
import Derived.LoopIn
import Derived.Maps.AppendAt
import Derived.WalkMore
import Derived.Test.YtihpoecdnchioaaGreatDoorAtoi
namespace Go.Proofs.YtihpoecdnchioaaGreatDoor
open Go.RowKit

section
variable {P : Program} {b : Frame} {a : Act} {k : List Item} {cs : List Frame} {w : World}

theorem stepR_scope {c : Code} : step P (lone (b.atR a (.code (.scope c) :: k)) cs w) = .next (lone (b.atR a (.code c :: .inScope c :: k)) cs w) :=
  step_lone_go (by simp [stepG, stepG.exec, Frame.atR])
theorem stepR_inScope {c : Code} : step P (lone (b.atR a (.inScope c :: k)) cs w) = .next (lone (b.atR a k) cs w) :=
  step_lone_go (by simp [stepG, stepG.exec, Frame.atR])

/-- A scope whose code never leaves it by a jump, inside a fence. -/
theorem wpIn_scope_straight {F : Fence} {n : Nat} {Q : Exit → Act → World → Prop} {c : Code} (h : c.wpIn F n P (Exit.noGoto Q) a w) : (Code.scope c).wpIn F n P Q a w := by
  intro b k cs hro hb hr
  have h0 : (lone (b.atR a (.code (.scope c) :: k)) cs w).fenced P F := fenced_calm hb hr rfl
  obtain ⟨e, a₁, w₁, hq, harr⟩ := h b (.inScope c :: k) cs hro hb hr
  cases e with
  | normal => exact ⟨.normal, a₁, w₁, hq, .head h0 stepR_scope (StepsIn.trans harr (.one (fenced_calm hb hr rfl) stepR_inScope))⟩
  | exit id =>
    have hx : exitTo id (.inScope c :: k) = exitTo id k := by simp [exitTo]
    exact ⟨.exit id, a₁, w₁, hq, fun k' hk => .head h0 stepR_scope (harr.1 k' (by rw [hx]; exact hk)),
      fun hr' hk => let ⟨k₁, h1, h2⟩ := harr.2 hr' (by rw [hx]; exact hk); ⟨k₁, h1, .head h0 stepR_scope h2⟩⟩
  | goto l => exact hq.elim
  | ret => exact ⟨_, a₁, w₁, hq, .of_steps (.one h0 stepR_scope) harr⟩
  | panic ch => exact ⟨_, a₁, w₁, hq, .of_steps (.one h0 stepR_scope) harr⟩
  | outgrown => exact ⟨_, a₁, w₁, hq, .of_steps (.one h0 stepR_scope) harr⟩
end

/-- blocks of cells of type t lie as they lay -/
def KeepTy (t : TypeId) (W W' : World) : Prop := ∀ (k : Nat) (cs : Array Value) (z : Nat × Nat), W.heap[k]? = some (Obj.cells cs t z) → W'.heap[k]? = some (Obj.cells cs t z)
theorem KeepTy.refl (t : TypeId) (W : World) : KeepTy t W W := fun _ _ _ h => h
theorem KeepTy.trans {t : TypeId} {A B C : World} (h : KeepTy t A B) (k : KeepTy t B C) : KeepTy t A C := fun i cs z hi => k i cs z (h i cs z hi)
theorem KeepTy.putObj (t : TypeId) (W : World) (l : Nat) (o o' : Obj) (hl : W.heap[l]? = some o) (ho : o.isCells = false) : KeepTy t W (W.putObj l o') := fun k cs z hk =>
  (World.putObj_heap_other (fun e => by subst e; rw [hl] at hk; cases hk; cases ho)).trans hk
theorem KeepTy.below {t : TypeId} {W W' : World} (h : Below W.heap.size W W') : KeepTy t W W' := fun k _ _ hk => (h.block k (Array.getElem?_eq_some_iff.1 hk).1).trans hk
theorem KeepTy.grown {t : TypeId} {W W' : World} {row : Option Nat} (h : W.grownBy W' row) (hr : ∀ (r : Nat) (cs : Array Value) (z : Nat × Nat), row = some r → W.heap[r]? ≠ some (Obj.cells cs t z)) : KeepTy t W W' := fun k cs z hk =>
  (h.block k (Array.getElem?_eq_some_iff.1 hk).1 (fun e => hr k cs z e.symm hk)).trans hk
theorem KeepTy.boxed {t t' : TypeId} (hne : t' ≠ t) {W : World} {B : Nat} {v : Value} (h : Boxed W B t' v) (v' : Value) : KeepTy t W (W.setCell ⟨B, 0, none⟩ v') :=
  KeepTy.grown (grownBy_setCell' W B v') (fun r cs z e hk => by cases e; rw [show W.heap[B]? = _ from h] at hk; cases hk; exact hne rfl)

/-- new blocks alone are a step that a round's invariant abides -/
theorem grown_of_below {W W' : World} (h : Below W.heap.size W W') : W.grownBy W' none := ⟨h.os, h.tape, h.output, h.size, fun k hk _ => h.block k hk⟩
theorem abides_below {β : Type} {B : Nat} {J : β → World → Prop} (hJ : AbidesFrom B J) {s : β} {W W' : World} (hs : J s W) (h : Below W.heap.size W W') : J s W' :=
  hJ s W W' none hs (grown_of_below h) (fun r e => by cases e)

/-- What a round keeps: whatever lay below n; blocks of type t. -/
def Kept (t : TypeId) (n : Nat) (W W' : World) : Prop := Below n W W' ∧ KeepTy t W W'
theorem Kept.t {t : TypeId} {n : Nat} : ∀ {A B C : World}, Kept t n A B → Kept t n B C → Kept t n A C := fun h k => ⟨h.1.trans k.1, h.2.trans k.2⟩
theorem Kept.b {t : TypeId} {n : Nat} {w : World} (hn : n ≤ w.heap.size) : ∀ (W : World) (l : Nat) (o o' : Obj), w.heap.size ≤ l → W.heap[l]? = some o → o.isCells = false → o.isWalk = false → Kept t n W (W.putObj l o') :=
  fun W l o o' h1 h2 h3 h4 => ⟨belowK_b hn W l o o' h1 h2 h3 h4, KeepTy.putObj t W l o o' h2 h3⟩

end Go.Proofs.YtihpoecdnchioaaGreatDoor
