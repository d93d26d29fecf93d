/- The library's table of powers of ten lies in the start world of a row. No conditions. -/
import Derived.Test.YtmafmhlfjficmaaGreatDoorWitA
import Derived.Test.YtmafmhlfjficmaaGreatDoorRkPA
import Derived.Test.YtmafmhlfjficmaaGreatDoorDgIN
import Derived.Lib.LaidTab
import Derived.LaidSub
namespace Go.Proofs.YtmafmhlfjficmaaGreatDoor
section
open Go.RowKit Go.ChangeShapes Go.ChangeMaps
section
variable {H : Type} {enc : TypeId × Value -> H} {W : World} {sp : Nat -> Bool} {hd : Bool}
set_option maxRecDepth 100000 in
theorem arg_lawT {r:Reach}{b0:Nat}{v:Value}{d:DataW H}{ps:List MemPlace}(hval:Value.okWide Tryz.prog W r b0 28 v)(h:DataW.Trod enc Tryz.prog W 0 sp hd 28 v d ps):∃ds qs zs,LawT W W.heap.size ds qs zs v:=by
 obtain⟨fuel,hf⟩:=h;obtain⟨l,rfl⟩:=okWide_struct Tryz.underlying28 hval;obtain⟨xs,n,_,_,hlen,hxs,hx⟩:=DataW.trod_struct Tryz.underlying28 hf;rw[c52]at hlen;have hxs:xs.length=3:=hxs;obtain⟨v0,v1,v2,rfl⟩:=len3 hlen
 ·skip
  have f0:=hx 0 _ rfl;have f1:=hx 1 _ rfl;have f2:=hx 2 _ rfl;simp only[List.getElem_toArray,List.getElem_cons_zero]at f0;simp only[List.getElem_toArray,List.getElem_cons_zero,List.getElem_cons_succ]at f1;simp only[List.getElem_toArray,List.getElem_cons_zero,List.getElem_cons_succ]at f2;rw[c27]at f0;rw[c50]at f1;rw[c28]at f2;rw[List.getElem?_eq_getElem (by omega)]at f0
  replace f0:DataW.trod enc Tryz.prog W 0 sp hd n 24 [v0]=some xs[0]:=f0
  obtain⟨ys,n',_,_,_,hys,hy⟩:=DataW.trod_struct Tryz.underlying24 f0;have hys:ys.length=1:=hys;have g0:=hy 0 _ rfl;simp only[List.getElem_toArray,List.getElem_cons_zero]at g0;rw[c25]at g0;obtain⟨ds,hds⟩:=open_fa g0 (at_some hys (by decide));obtain⟨qs,hqs⟩:=open_pv f1 (at_some hxs (by decide));obtain⟨zs,hzs⟩:=open_ints_in Tryz.underlying26 f2 (at_some hxs (by decide));exact⟨ds,qs,zs,v0,v1,v2,rfl,hds,hqs,hzs⟩
set_option maxRecDepth 100000 in
theorem arg_int {r:Reach}{b0:Nat}{v:Value}{d:DataW H}{ps:List MemPlace}(hval:Value.okWide Tryz.prog W r b0 3 v)(h:DataW.Trod enc Tryz.prog W 0 sp hd 3 v d ps):∃n:Int,v=.int .i64 n/\ W64 n:=by
 obtain⟨n,e,_,_,hw⟩:=open_int Tryz.underlying3 hval h;exact⟨n,e,wf64 hw⟩
end
end
section
open Go Go.RowKit
theorem tab_met {W:World}(h:laidMetH Tryz.prog laid5 W):TabH W.heap.size W:=by
 have h1:=h.filter (fun x=>x.1== "internal/strconv.uint64pow10")
 have e:laid5.filter (fun x=>x.1== "internal/strconv.uint64pow10")=[("internal/strconv.uint64pow10",Lib.tabData .u64 Lib.pow10Tab)]:=by kernel_rfl
 rw[e,MakeChecks.laidMetH_plain _ _ _ (by kernel_rfl)]at h1;exact Lib.tabBelow_of_tabIs (Lib.tabIs_of_head (g:=0) (t:=237) (e:=206) (n:=20) (by kernel_rfl) (by kernel_rfl) (by kernel_rfl) (by kernel_rfl) (by kernel_rfl) (by kernel_rfl) h1)
end
end Go.Proofs.YtmafmhlfjficmaaGreatDoor
