/- The library's table of powers of ten lies in the start world of a row. No conditions. -/
import Derived.Test.YtihniipjfdenbaaGreatDoorWitG
import Derived.Test.YtihniipjfdenbaaGreatDoorDgIN
namespace Go.Proofs.YtihniipjfdenbaaGreatDoor
open Go Go.RowKit
theorem tab_met {W:World}(h:laidMetH Tryz.prog laid5 W):TabH W.heap.size W:=by
 have h1:=h.filter (fun x=>x.1== "internal/strconv.uint64pow10")
 have e:laid5.filter (fun x=>x.1== "internal/strconv.uint64pow10")=[("internal/strconv.uint64pow10",Lib.tabData .u64 Lib.pow10Tab)]:=by kernel_rfl
 rw[e,MakeChecks.laidMetH_plain _ _ _ (by kernel_rfl)]at h1;exact Lib.tabBelow_of_tabIs (Lib.tabIs_of_head (g:=0) (t:=250) (e:=172) (n:=20) (by kernel_rfl) (by kernel_rfl) (by kernel_rfl) (by kernel_rfl) (by kernel_rfl) (by kernel_rfl) h1)
end Go.Proofs.YtihniipjfdenbaaGreatDoor
