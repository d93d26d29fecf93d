/- slices.SortFunc at no element. No conditions. -/
import Derived.Test.YtihpoecdnchioaaGreatDoorShelf
import Derived.Shelf.SlSortCmp.NoneTotal
namespace Go.Proofs.YtihpoecdnchioaaGreatDoor
open Go.RowKit

theorem sortFunc_none (p : Option Addr) (cap : Nat) (fv : Value) (w : World) :
    Calls Tryz.prog 57 #[.slice p 0 cap, fv] w fun e w' => e = .returned (.tuple #[]) ∧ w' = w :=
  AnyF.slices_SortFunc_none { Tryz.laysSlF6_f57 with } p cap fv w

end Go.Proofs.YtihpoecdnchioaaGreatDoor
