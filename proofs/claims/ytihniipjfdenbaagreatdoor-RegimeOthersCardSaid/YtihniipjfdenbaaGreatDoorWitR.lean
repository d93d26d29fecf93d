/- The arguments opened: transitional rules, numbers; six and seven arguments. No conditions. -/
import Derived.Test.YtihniipjfdenbaaGreatDoorDgWit
import Derived.Test.YtihniipjfdenbaaGreatDoorRgPA
namespace Go.Proofs.YtihniipjfdenbaaGreatDoor
open Go.RowKit Go.ChangeShapes Go.ChangeMaps
theorem cCh :Tryz.prog.cellsOf 49=9:=by kernel_rfl
theorem cBoolR :Tryz.prog.cellsOf 4=1:=by kernel_rfl
theorem len9 {α:Type}{l0:List α}(h0:l0.length=9):∃v0 v1 v2 v3 v4 v5 v6 v7 v8,l0=[v0,v1,v2,v3,v4,v5,v6,v7,v8]:=by
 obtain⟨v0,l1,rfl,h1⟩:=peel h0;obtain⟨v1,l2,rfl,h2⟩:=peel h1;obtain⟨v2,l3,rfl,h3⟩:=peel h2;obtain⟨v3,l4,rfl,h4⟩:=peel h3;obtain⟨v4,l5,rfl,h5⟩:=peel h4;obtain⟨v5,l6,rfl,h6⟩:=peel h5;obtain⟨v6,l7,rfl,h7⟩:=peel h6;obtain⟨v7,l8,rfl,h8⟩:=peel h7;obtain⟨v8,l9,rfl,h9⟩:=peel h8;obtain rfl:=List.length_eq_zero_iff.1 h9;exact⟨v0,v1,v2,v3,v4,v5,v6,v7,v8,rfl⟩
section
variable {H : Type} {enc : TypeId × Value -> H} {W : World} {sp : Nat -> Bool} {hd : Bool}
theorem open_boolR {fuel:Nat}{v:Value}{y:Option (DataW H×List MemPlace)}(h:DataW.trod enc Tryz.prog W 0 sp hd fuel 4 [v]=y)(hy:y.isSome=true):∃b:Bool,v=.bool b:=by
 obtain⟨x,rfl⟩:=Option.isSome_iff_exists.1 hy;obtain⟨b,hc,_⟩:=DataW.trod_bool Tryz.underlying4 h;simp only[List.cons.injEq,and_true]at hc;exact⟨b,hc⟩
theorem open_chs {fuel:Nat}{v:Value}{y:Option (DataW H×List MemPlace)}(h:DataW.trod enc Tryz.prog W 0 sp hd fuel 22 [v]=y)(hy:y.isSome=true):∃l,SlIn ChR 9 W W.heap.size l v:=by
 obtain⟨x,rfl⟩:=Option.isSome_iff_exists.1 hy;refine open_sl Tryz.underlying22 cCh (by decide) h (fun n cs y b o _ hy hb hr hl=>?_);obtain⟨xs,n,hf,_,_,hxs,hx⟩:=DataW.trod_struct Tryz.underlying49 hy;have hxs:xs.length=5:=hxs;obtain⟨v0,v1,v2,v3,v4,v5,v6,v7,v8,rfl⟩:=len9 hl;have f0:=hx 0 _ rfl;have f1:=hx 1 _ rfl;have f2:=hx 2 _ rfl;have f3:=hx 3 _ rfl;have f4:=hx 4 _ rfl;simp only[List.getElem_toArray,List.getElem_cons_zero]at f0;simp only[List.getElem_toArray,List.getElem_cons_zero,List.getElem_cons_succ]at f1;simp only[List.getElem_toArray,List.getElem_cons_zero,List.getElem_cons_succ]at f2;simp only[List.getElem_toArray,List.getElem_cons_zero,List.getElem_cons_succ]at f3;simp only[List.getElem_toArray,List.getElem_cons_zero,List.getElem_cons_succ]at f4;rw[c9]at f0 f1;rw[c24]at f2;rw[c3]at f3;rw[cBoolR]at f4;obtain⟨id,rfl,o0⟩:=open_s f0 (at_some hxs (by decide));obtain⟨qs,rfl,o1⟩:=open_s f1 (at_some hxs (by decide));rw[List.getElem?_eq_getElem (by omega)]at f2;obtain⟨f,hfi⟩:=open_fo (n+1) n [v2,v3,v4,v5,v6] _ (by omega) f2;obtain⟨ak,ck,hv⟩:=hfi.shape;simp only[Value.agg.injEq,Array.mk.injEq,List.cons.injEq,and_true]at hv;obtain⟨rfl,rfl,rfl,rfl,rfl⟩:=hv;obtain⟨dy,rfl,o3⟩:=open_n f3 (at_some hxs (by decide));obtain⟨kp,rfl⟩:=open_boolR f4 (at_some hxs (by decide));exact⟨⟨id,qs,f,dy,kp⟩,ak,ck,hr,hfi,o0,o1,o3⟩
set_option maxRecDepth 100000 in
theorem arg_chs {r:Reach}{b0:Nat}{v:Value}{d:DataW H}{ps:List MemPlace}(hval:Value.okWide Tryz.prog W r b0 22 v)(h:DataW.Trod enc Tryz.prog W 0 sp hd 22 v d ps):∃l,SlIn ChR 9 W W.heap.size l v:=by
 obtain⟨fuel,hf⟩:=h;rw[okWide_slice Tryz.underlying22 hval]at hf;exact open_chs hf rfl
set_option maxRecDepth 100000 in
theorem arg_int {r:Reach}{b0:Nat}{v:Value}{d:DataW H}{ps:List MemPlace}(hval:Value.okWide Tryz.prog W r b0 3 v)(h:DataW.Trod enc Tryz.prog W 0 sp hd 3 v d ps):∃n:Int,v=.int .i64 n/\ W64 n:=by
 obtain⟨n,e,_,_,hw⟩:=open_int Tryz.underlying3 hval h;exact⟨n,e,wf64 hw⟩
theorem trodAll_six {t t' t'' t3 t4 t5:TypeId}{args:Array Value}{ds:List (DataW H)}{ps:List MemPlace}(h:DataW.TrodAll enc Tryz.prog W 0 sp hd [t,t',t'',t3,t4,t5] args.toList ds ps):
  ∃v v' v'' v3 v4 v5 d d' d'' d3 d4 d5 p p' p'' p3 p4 p5,args=#[v,v',v'',v3,v4,v5]/\ ds=[d,d',d'',d3,d4,d5]/\ ps=p++p'++p''++p3++p4++p5/\ DataW.Trod enc Tryz.prog W 0 sp hd t v d p/\ DataW.Trod enc Tryz.prog W 0 sp hd t' v' d' p'/\ DataW.Trod enc Tryz.prog W 0 sp hd t'' v'' d'' p''/\ DataW.Trod enc Tryz.prog W 0 sp hd t3 v3 d3 p3/\ DataW.Trod enc Tryz.prog W 0 sp hd t4 v4 d4 p4/\ DataW.Trod enc Tryz.prog W 0 sp hd t5 v5 d5 p5:=by
 obtain⟨v,vs,d,ds',p,q,hargs,rfl,rfl,hd0,hrest⟩:=trodAll_cons h;obtain⟨v',v'',v3,v4,v5,d',d'',d3,d4,d5,p',p'',p3,p4,p5,hv,rfl,rfl,h1,h2,h3,h4,h5⟩:=trodAll_five (args:=vs.toArray) (by simpa using hrest);refine⟨v,v',v'',v3,v4,v5,d,d',d'',d3,d4,d5,p,p',p'',p3,p4,p5,?_,rfl,by simp,hd0,h1,h2,h3,h4,h5⟩;cases args
 simp_all
theorem trodAll_mk6 {t t' t'' t3 t4 t5:TypeId}{v v' v'' v3 v4 v5:Value}{d d' d'' d3 d4 d5:DataW H}{p p' p'' p3 p4 p5:List MemPlace}(h:DataW.Trod enc Tryz.prog W 0 sp hd t v d p)(h':DataW.Trod enc Tryz.prog W 0 sp hd t' v' d' p')
  (h'':DataW.Trod enc Tryz.prog W 0 sp hd t'' v'' d'' p'') (h3:DataW.Trod enc Tryz.prog W 0 sp hd t3 v3 d3 p3) (h4:DataW.Trod enc Tryz.prog W 0 sp hd t4 v4 d4 p4) (h5:DataW.Trod enc Tryz.prog W 0 sp hd t5 v5 d5 p5):DataW.TrodAll enc Tryz.prog W 0 sp hd [t,t',t'',t3,t4,t5] [v,v',v'',v3,v4,v5] [d,d',d'',d3,d4,d5] (p++(p'++(p''++(p3++(p4++p5))))):=
 ⟨p,p'++(p''++(p3++(p4++p5))),h,trodAll_mk5 h' h'' h3 h4 h5,rfl⟩
end
end Go.Proofs.YtihniipjfdenbaaGreatDoor
