/- Laws for the walks: a value of many cells stored into the block that was just laid; a lookup in a map of bools. No conditions. -/
import Derived.Test.YtihpoecdnchioaaGreatDoorMem2
namespace Go.Proofs.YtihpoecdnchioaaGreatDoor
open Go.RowKit

/-- A value of many cells is stored into the new block that was laid for it: what the world is good for behind it. -/
theorem wpList_store_new {P : Program} {ops : Array Oper} {rest : List Oper} {o : Oper} {a : Act} {Q : Exit → Act → World → Prop} {w : World} {zs : Array Value} {ty : TypeId}
    (hg : o.guard = none) (x y : Operand) (ho : o.op = .store ty x y) (cells : List Value) (hx : a.eval x = .pointer (some ⟨w.heap.size, 0, none⟩)) (hy : a.eval y = .agg cells.toArray)
    (hs : zs.size = cells.length) (hi : (P.info? ty).map (·.size) = some cells.length) (h1 : cells.toArray.all (·.oneCell') = true)
    (h : ∀ W', Below w.heap.size w W' → W'.heap.size = w.heap.size + 1 → W'.rangeAt w.heap.size 0 cells → (∀ j, W'.frozen? ⟨w.heap.size, j, none⟩ = false) → wpList P ops Q rest (a.put o.dst undef) W') :
    wpList P ops Q (o :: rest) a (w.alloc (.cells zs ty)) := by
  have ht : (w.alloc (.cells zs ty)).there w.heap.size 0 cells.length := fun j hj => by
    refine ⟨?_, World.frozen?_alloc_new w zs ty _⟩
    rw [World.cell?_alloc_new]
    rw [Array.getElem?_eq_getElem (by omega)]
    rfl
  refine wpList_store_mid hg ty x y ho w.heap.size 0 cells.toArray hx hy (by simpa using ht) (by simpa using hi) h1 ?_
  refine h _ ?_ ?_ ?_ ?_
  · have : ∀ (vs : List Value) (o : Nat) (W : World), Below w.heap.size w W → Below w.heap.size w (W.setCells w.heap.size o vs) := by
      intro vs
      induction vs with
      | nil => intro _ _ h; exact h
      | cons v vs ih => intro o W h; exact ih _ _ (h.setCell (Nat.le_refl _) _)
    exact this _ _ _ ((Below.refl _ _).alloc (Nat.le_refl _) _)
  · have : ∀ (vs : List Value) (o : Nat) (W : World), (W.setCells w.heap.size o vs).heap.size = W.heap.size := by
      intro vs
      induction vs with
      | nil => intro _ _; rfl
      | cons v vs ih => intro o W; rw [World.setCells, ih]; simp [World.setCell]
    rw [this]; simp
  · simpa using World.rangeAt_setCells_same (w.alloc (.cells zs ty)) w.heap.size 0 cells ht
  · intro j
    rw [World.frozen?_setCells]
    exact World.frozen?_alloc_new w zs ty _

/-- The same for a provision. -/
theorem wpList_store_pv {P : Program} {ops : Array Oper} {rest : List Oper} {o : Oper} {a : Act} {Q : Exit → Act → World → Prop} {w : World} {zs : Array Value} {ty : TypeId}
    (hg : o.guard = none) (x y : Operand) (ho : o.op = .store ty x y) (p : Pv) (ak : Option Addr) (ck : Nat) (ae : Option Addr) (ce : Nat)
    (hx : a.eval x = .pointer (some ⟨w.heap.size, 0, none⟩)) (hy : a.eval y = .agg (pvC p ak ck ae ce).toArray)
    (hs : zs.size = 23) (hi : (P.info? ty).map (·.size) = some 23)
    (h : ∀ W', Below w.heap.size w W' → W'.heap.size = w.heap.size + 1 → W'.rangeAt w.heap.size 0 (pvC p ak ck ae ce) → (∀ j, W'.frozen? ⟨w.heap.size, j, none⟩ = false) → wpList P ops Q rest (a.put o.dst undef) W') :
    wpList P ops Q (o :: rest) a (w.alloc (.cells zs ty)) :=
  wpList_store_new hg x y ho (pvC p ak ck ae ce) hx hy (by rw [hs, pvC_len]) (by rw [hi, pvC_len]) (pvC_one _ _ _ _ _) h

/-- The load of a provision. -/
theorem wpList_load_pv {P : Program} {ops : Array Oper} {rest : List Oper} {op : Oper} {a : Act} {w : World} {Q : Exit → Act → World → Prop} (hgd : op.guard = none) {ty : TypeId} (x : Operand) (ho : op.op = .load ty x)
    {b o : Nat} (hx : a.eval x = .pointer (some ⟨b, o, none⟩)) (p : Pv) (ak : Option Addr) (ck : Nat) (ae : Option Addr) (ce : Nat) {d : TypeDesc} (hc : w.rangeAt b o (pvC p ak ck ae ce))
    (hu : P.underlying ty = some d) (hd : d.isRow = true) (hi : (P.info? ty).map (·.size) = some 23)
    (h : wpList P ops Q rest (a.put op.dst (.agg (pvC p ak ck ae ce).toArray)) w) : wpList P ops Q (op :: rest) a w :=
  wpList_load_mid hgd ty x ho b o hx _ d hc hu hd (by rw [hi, pvC_len]) h

end Go.Proofs.YtihpoecdnchioaaGreatDoor
