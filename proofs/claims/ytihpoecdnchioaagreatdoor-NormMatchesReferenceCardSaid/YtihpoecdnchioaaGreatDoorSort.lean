/- slices.Sort at a row of the call's own. No conditions beyond a bound on its length. -/
import Derived.Test.YtihpoecdnchioaaGreatDoorTm
import Derived.Test.YtihpoecdnchioaaGreatDoorShelf
import Derived.Lib.OwnBridge
namespace Go.Proofs.YtihpoecdnchioaaGreatDoor
open Go.RowKit Go.Sort Tj

theorem grown_grow (w : World) (os : Array Obj) : w.grownBy (grow w os) none :=
  ⟨rfl, rfl, rfl, by simp [grow], fun k hk _ => by simp [grow, Array.getElem?_append, hk]⟩
theorem grown_putRow {α : Type} [Inhabited α] (enc : α → Value) (w : World) (q g : Nat) (d : Array α) : w.grownBy (putRow enc (Sort.ahead w q) g 0 d) (some g) :=
  ⟨rfl, rfl, rfl, by simp [putRow, mapBlock, Sort.ahead], fun k _ hne => by
    have : g ≠ k := fun e => hne (by rw [e])
    simp [putRow, mapBlock, Sort.ahead, Array.getElem?_modify, this]⟩

theorem sortI_any (l : List Int) (g cc base : Nat) (w : World) (hsz : l.length ≤ 100000) (h : w.ownsRow base 3 1 (.slice (some ⟨g, 0, none⟩) l.length cc) l.length (l.map iV)) :
    Calls Tryz.prog 56 #[.slice (some ⟨g, 0, none⟩) l.length cc] w fun e w' => e = .returned (.tuple #[]) ∧
      w'.ownsRow base 3 1 (.slice (some ⟨g, 0, none⟩) l.length cc) l.length ((l.mergeSort fun x y => decide (x ≤ y)).map iV) ∧ w.grownBy w' (some g) := by
  obtain ⟨g', cap', e, hb, hlt, h1, h2, h3, hH⟩ := Lib.holds_of_ownsRow (enc := Value.int .i64) h (by simp)
  cases e
  refine (Tryz.slices_Sort_int g 0 cc l w hH hlt (by omega)).mono ?_
  rintro e w' ⟨rfl, n, os, rfl⟩
  have hml : (l.mergeSort fun x y => decide (x ≤ y)).length = l.length := List.length_mergeSort _
  have h4 := Lib.ownsRow_putRow (enc := Value.int .i64) (q := n) (k := l.length) h hml (Nat.le_refl _)
  rw [List.take_of_length_le (by omega)] at h4
  refine ⟨rfl, h4.kept (grown_grow _ os) (.inr (by simp [Value.ownBlock])), ?_⟩
  have g1 := grown_putRow (Value.int .i64) w n g (l.mergeSort fun x y => decide (x ≤ y)).toArray
  have g2 := grown_grow (putRow (Value.int .i64) (Sort.ahead w n) g 0 (l.mergeSort fun x y => decide (x ≤ y)).toArray) os
  exact ⟨g2.os.trans g1.os, g2.tape.trans g1.tape, g2.output.trans g1.output, Nat.le_trans g1.size g2.size, fun k hk hne => (g2.block k (Nat.lt_of_lt_of_le hk g1.size) (by simp)).trans (g1.block k hk hne)⟩

end Go.Proofs.YtihpoecdnchioaaGreatDoor
