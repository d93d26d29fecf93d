/- The law that RankMatters makes, in memory: its row of provisions, their conditions. No program is walked. -/
import Derived.Test.YtmafmhlfjficmaaGreatDoorRkLA
import Derived.Test.YtmafmhlfjficmaaGreatDoorRkUA
import Derived.Test.YtmafmhlfjficmaaGreatDoorTokA
import Derived.Maps.AppendAt
namespace Go.Proofs.YtmafmhlfjficmaaGreatDoor
open Go.RowKit
theorem pvInfo :(Tryz.prog.info? 50).map (fun i=>(i.size,i.zero.map (·.cells.size),i.bytes))=some (23,some 23,312):=by kernel_rfl
theorem pv_info :∃i z,Tryz.prog.info? 50=some i/\ i.size=23/\ i.zero=some z/\ z.cells.size=23/\ i.bytes=312:=by
 have h:=pvInfo;cases hi:Tryz.prog.info? 50 with
 | none=>rw[hi]at h;cases h
 | some i=>
  rw[hi]at h;simp only[Option.map_some,Option.some.injEq,Prod.mk.injEq]at h;obtain⟨h1,h2,h3⟩:=h;obtain⟨z,hz,hz2⟩:=Option.map_eq_some_iff.1 h2;exact⟨i,z,rfl,h1,hz,hz2,h3⟩
theorem run_buildSlice_pv (p:Pv)(ak:Option Addr)(ck:Nat)(ae:Option Addr)(ce:Nat)(w:World):
  (Instr.buildSlice 25 1 #[(0,.agg (pvC p ak ck ae ce).toArray)]).run Tryz.prog w=.ok (.slice (some ⟨w.heap.size,0,none⟩) 1 1) (w.alloc (.cells (pvC p ak ck ae ce).toArray 50)):=by
 obtain⟨i,z,hi,hs,hz,hzs,_⟩:=pv_info;exact run_buildSlice_one (pvC p ak ck ae ce) Tryz.underlying25 hi hs hz hzs (by rw[pvC_len];decide) (by rw[pvC_len];decide) w
structure PvA where
 p:Pv
 ak:Option Addr
 ck:Nat
 ae:Option Addr
 ce:Nat
def PvA.cells (x:PvA):List Value:=pvC x.p x.ak x.ck x.ae x.ce
def PvA.Ok (W:World)(B:Nat)(x:PvA):Prop:=
 x.p.cond.In W B (.agg #[.int .i64 x.p.cond.op,.string x.p.cond.name,.int .i64 x.p.cond.cmp,.int .i64 x.p.cond.n,.slice x.ak x.p.cond.kids.length x.ck])/\ StrsIn W B x.p.except (.slice x.ae x.p.except.length x.ce)/\ x.p.id.size<=maxLen/\ x.p.name.size<=maxLen
theorem pvC_ones (x:Pv)(ak:Option Addr)(ck:Nat)(ae:Option Addr)(ce:Nat):∀u∈pvC x ak ck ae ce,u.oneCell'=true:=fun u hu=>by
 have h:=pvC_one x ak ck ae ce;rw[Array.all_eq_true_iff_forall_mem]at h;exact h u (by simpa using hu)
theorem flat_get :∀(xs:List PvA) (i j:Nat) (hi:i<xs.length),j<23->(xs.flatMap PvA.cells)[i*23+j]? =xs[i].cells[j]?
 | x::xs,0,j,_,hj=>by
  rw[List.flatMap_cons,List.getElem?_append_left (by show _<23;omega)]
  simp
 | x::xs,i+1,j,hi,hj=>by
  rw[List.flatMap_cons,List.getElem?_append_right (by show 23<=_;omega),show(i+1)*23+j-x.cells.length=i*23+j by show _-23=_;omega,flat_get xs i j (by simpa using hi) hj]
  simp
theorem own_pvs {W:World}{base:Nat}{v:Value}{xs:List PvA}(h:W.ownsRow base 50 23 v xs.length (xs.flatMap PvA.cells)){B:Nat}(hB:W.heap.size<=B)(hx:∀x∈xs,x.Ok W B):SlIn PvR 23 W B (xs.map (·.p)) v:=by
 rcases h.2 with⟨rfl,h0⟩ | ⟨g,cap,cur,rfl,_,hg,h1,h2,h3,h4⟩
 ·have:xs=[]:=List.length_eq_zero_iff.1 h0
  subst this;exact⟨none,0,rfl,Nat.zero_le _,Nat.zero_le _,fun e=>absurd rfl e⟩
 ·refine⟨some ⟨g,0,none⟩,cap,by rw[List.length_map],by rw[List.length_map];exact h1,h2,fun _=>⟨g,0,rfl,Nat.lt_of_lt_of_le (Array.getElem?_eq_some_iff.1 hg).1 hB,fun i hi=>?_⟩⟩
  have hi':i<xs.length:=by simpa using hi
  obtain⟨k1,k2,k3,k4⟩:=hx xs[i] (List.getElem_mem hi');rw[List.getElem_map];refine⟨xs[i].ak,xs[i].ck,xs[i].ae,xs[i].ce,fun j u hj=>?_,k1,k2,k3,k4⟩
  have hj':j<23:=by
   rcases Nat.lt_or_ge j 23 with h | h
   ·exact h
   ·rw[List.getElem?_eq_none (by exact h)]at hj;cases hj
  have h5:(cur.toList.take (xs.length*23))[i*23+j]? =(xs.flatMap PvA.cells)[i*23+j]? :=by rw[h4]
  rw[List.getElem?_take_of_lt (by omega),flat_get xs i j hi' hj']at h5
  show W.cell? ⟨g,0+i*23+j,none⟩=some u
  simp only[World.cell?,hg];rw[Nat.zero_add]
  have:cur[i*23+j]? =some u:=by
   rw[<-Array.getElem?_toList,h5];exact hj
  simpa using this
theorem exec_build_pv {a:Act}{w:World}{o:Oper}(x:Operand)(ho:o.op=.buildSlice 25 1 #[(0,x)])(p:Pv)(ak:Option Addr)(ck:Nat)(ae:Option Addr)(ce:Nat)(hx:a.eval x=.agg (pvC p ak ck ae ce).toArray):
  (execOp a.eval o).run Tryz.prog w=.ok (.value (.slice (some ⟨w.heap.size,0,none⟩) 1 1)) (w.alloc (.cells (pvC p ak ck ae ce).toArray 50)):=by
 unfold execOp;simp only[ho,List.map_toArray,List.map_cons,List.map_nil,hx,Sem.run_bind,run_buildSlice_pv,Result.andThen_ok,Sem.run_pure]
theorem wp_build_pv {op:Oper}{a:Act}{w:World}{K:Act->World->Prop}{Q:Exit->Act->World->Prop}(x:Operand)(ho:op.op=.buildSlice 25 1 #[(0,x)])(p:Pv)(ak:Option Addr)(ck:Nat)(ae:Option Addr)(ce:Nat)(hx:a.eval x=.agg (pvC p ak ck ae ce).toArray)
  (h:K (a.put op.dst (.slice (some ⟨w.heap.size,0,none⟩) 1 1)) (w.alloc (.cells (pvC p ak ck ae ce).toArray 50))):op.wp Tryz.prog a w K Q:=by
 unfold Oper.wp;rw[exec_build_pv x ho p ak ck ae ce hx];exact h
theorem wpList_build_pv {ops:Array Oper}{rest:List Oper}{op:Oper}{a:Act}{w:World}{Q:Exit->Act->World->Prop}(hgd:op.guard=none)(x:Operand)(ho:op.op=.buildSlice 25 1 #[(0,x)])(p:Pv)(ak:Option Addr)(ck:Nat)(ae:Option Addr)(ce:Nat)(hx:a.eval x=.agg (pvC p ak ck ae ce).toArray)
  (h:wpList Tryz.prog ops Q rest (a.put op.dst (.slice (some ⟨w.heap.size,0,none⟩) 1 1)) (w.alloc (.cells (pvC p ak ck ae ce).toArray 50))):wpList Tryz.prog ops Q (op::rest) a w:=
 wpList_plain hgd fun _ hK=>wp_build_pv x ho p ak ck ae ce hx (hK _ _ h)
theorem news_blk (w:World)(l:List Value)(t:TypeId):∀j u,l[j]? =some u->(w.alloc (.cells l.toArray t)).cell? ((⟨w.heap.size,0,none⟩:Addr).add j)=some u:=by
 intro j u hj;have:=(Blk.new w t l.toArray).cell j;rw[Addr.add_mid,Nat.zero_add,this]
 simpa using hj
theorem PvA.Ok.mono {W:World}{B B':Nat}{x:PvA}(h:x.Ok W B)(hb:B<=B'):x.Ok W B':=⟨Fo.In.mono hb _ _ h.1,SlIn.mono (OneR.mono _) hb h.2.1,h.2.2⟩
theorem run_build_pvM (p:Pv)(k2 xb:Nat)(w:World):(Instr.build 50 #[(0,.string p.id),(1,.int .i64 p.rank),(2,.int .i64 1),(3,.string (⟨#[111,116,104,101,114]⟩:ByteArray)),(5,(.agg #[.int .i64 5,.string (⟨#[]⟩:ByteArray),.int .i64 0,.int .i64 0,.slice (some ⟨k2,0,none⟩) 1 1])),(6,.slice (some ⟨xb,0,none⟩) 1 1)]).run Tryz.prog w=.ok (.agg (pvC (pvM p) (some ⟨k2,0,none⟩) 1 (some ⟨xb,0,none⟩) 1).toArray) w:=by
 kernel_rfl
theorem wpList_build_pvM {ops:Array Oper}{rest:List Oper}{o:Oper}{a:Act}{w:World}{Q:Exit->Act->World->Prop}(hgd:o.guard=none)(x0 x1 x2 x3 x5 x6:Operand)(ho:o.op=.build 50 #[(0,x0),(1,x1),(2,x2),(3,x3),(5,x5),(6,x6)])(p:Pv)(k2 xb:Nat)
  (h0:a.eval x0=.string p.id) (h1:a.eval x1=.int .i64 p.rank) (h2:a.eval x2=.int .i64 1) (h3:a.eval x3=.string (⟨#[111,116,104,101,114]⟩:ByteArray)) (h5:a.eval x5=(.agg #[.int .i64 5,.string (⟨#[]⟩:ByteArray),.int .i64 0,.int .i64 0,.slice (some ⟨k2,0,none⟩) 1 1])) (h6:a.eval x6=.slice (some ⟨xb,0,none⟩) 1 1)
  (h:wpList Tryz.prog ops Q rest (a.put o.dst (.agg (pvC (pvM p) (some ⟨k2,0,none⟩) 1 (some ⟨xb,0,none⟩) 1).toArray)) w):wpList Tryz.prog ops Q (o::rest) a w:=by
 refine wpList_plain hgd fun K hK=>?_
 unfold Oper.wp execOp;simp only[ho,List.map_toArray,List.map_cons,List.map_nil,h0,h1,h2,h3,h5,h6,Sem.run_bind,run_build_pvM,Result.andThen_ok,Sem.run_pure];exact hK _ _ h
def KeepB (W W':World):Prop:=∀(b:Nat) (t:TypeId) (cs:Array Value),t=45\/t=9->Blk W b t cs->Blk W' b t cs
theorem KeepB.below {W W':World}(h:Below W.heap.size W W'):KeepB W W':=fun _ _ _ _ hb=>hb.below h
theorem KeepB.trans {W W' W'':World}(h:KeepB W W')(k:KeepB W' W''):KeepB W W'':=fun b t cs ht hb=>k b t cs ht (h b t cs ht hb)
theorem ft_ne :(45:Nat)≠50/\ (9:Nat)≠50/\ (45:Nat)≠28/\ (9:Nat)≠28:=by decide
theorem KeepB.grown {W W':World}{base n:Nat}{v:Value}{xs:List Value}(h:W.ownsRow base 50 23 v n xs)(hg:W.grownBy W' v.ownBlock):KeepB W W':=fun b t cs ht hb=>by
 refine hb.grown hg fun e=>?_
 rcases h.2 with⟨rfl,_⟩ | ⟨g,cap,cur,rfl,_,hgc,_⟩
 ·cases e
 ·have e:b=g:=by simpa[Value.ownBlock]using e
  subst e;rw[show W.heap[b]? =_ from hb]at hgc;simp only[Option.some.injEq,Obj.cells.injEq]at hgc;rcases ht with rfl | rfl
  ·exact ft_ne.1 hgc.2.1
  ·exact ft_ne.2.1 hgc.2.1
theorem KeepB.put {W:World}{B:Nat}{cl:Array Value}(h:Blk W B 28 cl)(i:Nat)(u:Value):KeepB W (W.setCell ⟨B,i,none⟩ u):=fun b t cs ht hb=>by
 have hne:b≠B:=fun e=>by
  subst e;have:=(show W.heap[b]? =_ from hb).symm.trans h;simp only[Option.some.injEq,Obj.cells.injEq]at this;rcases ht with rfl | rfl
  ·exact ft_ne.2.2.1 this.2.1
  ·exact ft_ne.2.2.2 this.2.1
 show(W.heap.modify B _)[b]? =_
 rw[Array.getElem?_modify,if_neg (fun e=>hne e.symm)];exact hb
structure OkM (w W : World) (x : PvA) (p : Pv) : Prop where
 is:∃(k1 k2 xb:Nat) (ka:Option Addr) (kc:Nat),x=⟨pvM p,some ⟨k2,0,none⟩,1,some ⟨xb,0,none⟩,1⟩/\ Blk W k2 45 #[.int .i64 5,.string (⟨#[]⟩:ByteArray),.int .i64 0,.int .i64 0,.slice (some ⟨k1,0,none⟩) 1 1]/\ Blk W k1 45 #[.int .i64 p.cond.op,.string p.cond.name,.int .i64 p.cond.cmp,.int .i64 p.cond.n,.slice ka p.cond.kids.length kc]/\ Blk W xb 9 #[.string xB]/\ p.cond.In w w.heap.size (.agg #[.int .i64 p.cond.op,.string p.cond.name,.int .i64 p.cond.cmp,.int .i64 p.cond.n,.slice ka p.cond.kids.length kc])
 id:p.id.size<=maxLen
theorem OkM.keep {w W W':World}{x:PvA}{p:Pv}(h:OkM w W x p)(k:KeepB W W'):OkM w W' x p:=by
 obtain⟨⟨k1,k2,xb,ka,kc,e,h1,h2,h3,h4⟩,h5⟩:=h;exact⟨⟨k1,k2,xb,ka,kc,e,k _ _ _ (.inl rfl) h1,k _ _ _ (.inl rfl) h2,k _ _ _ (.inr rfl) h3,h4⟩,h5⟩
theorem OkM.ok {w W:World}{x:PvA}{p:Pv}(h:OkM w W x p)(hb:Below w.heap.size w W):x.Ok W W.heap.size/\ x.p=pvM p:=by
 obtain⟨⟨k1,k2,xb,ka,kc,rfl,h1,h2,h3,h4⟩,h5⟩:=h;have hp:p.cond.In W W.heap.size (.agg #[.int .i64 p.cond.op,.string p.cond.name,.int .i64 p.cond.cmp,.int .i64 p.cond.n,.slice ka p.cond.kids.length kc]):=Fo.In.mono hb.size _ _ (Fo.In.below hb _ _ h4);have w5:W64 5:=⟨by decide,by decide⟩;have w0:W64 0:=⟨by decide,by decide⟩
 have hn:(Fo.mk 5 nilB 0 0 [p.cond]).In W W.heap.size (.agg #[.int .i64 5,.string (⟨#[]⟩:ByteArray),.int .i64 0,.int .i64 0,.slice (some ⟨k1,0,none⟩) 1 1]):=
  ⟨some ⟨k1,0,none⟩,1,rfl,w5,w0,w0,by decide,Nat.le_refl _,by decide,fun _=>⟨k1,0,rfl,h2.lt,⟨_,_,_,_,_,h2.cell 0,h2.cell 1,h2.cell 2,h2.cell 3,h2.cell 4,hp⟩,trivial⟩⟩
 refine⟨⟨⟨some ⟨k2,0,none⟩,1,rfl,w5,w0,w0,by decide,Nat.le_refl _,by decide,fun _=>⟨k2,0,rfl,h1.lt,⟨_,_,_,_,_,h1.cell 0,h1.cell 1,h1.cell 2,h1.cell 3,h1.cell 4,hn⟩,trivial⟩⟩,⟨some ⟨xb,0,none⟩,1,rfl,Nat.le_refl _,by decide,fun _=>⟨xb,0,rfl,h3.lt,fun i hi=>?_⟩⟩,h5,by show nmM.size<=maxLen;decide⟩,rfl⟩
 match i,hi with
 | 0,_=>exact h3.cell 0
structure LawM (w W : World) (b10 : Nat) (ps : List Pv) (k : Nat) (u1 u3 bv : Value) (xs : List PvA) : Prop where
 row:W.ownsRow (b10+1) 50 23 bv xs.length (xs.flatMap PvA.cells)
 len:xs.length=k
 ok:∀(i:Nat) (h:i<xs.length) (h':i<ps.length),OkM w W xs[i] ps[i]
 blk:Blk W b10 28 #[u1,bv,u3]
variable {w W W' : World} {b10 k : Nat} {ps : List Pv} {u1 u3 bv : Value} {xs : List PvA}
theorem LawM.below (h:LawM w W b10 ps k u1 u3 bv xs)(hb:Below W.heap.size W W'):LawM w W' b10 ps k u1 u3 bv xs:=
 ⟨own_under h.row hb,h.len,fun i hi hi'=>(h.ok i hi hi').keep (KeepB.below hb),h.blk.below hb⟩
theorem LawM.push (h:LawM w W b10 ps k u1 u3 bv xs){x:PvA}(hk:k<ps.length)(hx:OkM w W x ps[k]){w9:World}{v9:Value}(hown:w9.ownsRow (b10+1) 50 23 v9 (xs.length+1) (xs.flatMap PvA.cells++x.cells))(hg:W.grownBy w9 bv.ownBlock):
  LawM w (w9.setCell ⟨b10,1,none⟩ v9) b10 ps (k+1) u1 u3 v9 (xs++[x]):=by
 have hb9:=h.blk.grown hg (fun e=>by have:=(h.row.lt _ e.symm).1;omega);have hK:KeepB W (w9.setCell ⟨b10,1,none⟩ v9):=(KeepB.grown h.row hg).trans (KeepB.put hb9 1 v9);refine⟨?_,by rw[List.length_append,h.len];rfl,fun i hi hi'=>?_,hb9.set 1 v9⟩
 ·rw[List.length_append,List.flatMap_append,List.flatMap_cons,List.flatMap_nil,List.append_nil]
  exact own_struck hown _ v9 (fun g e=>by have:=(hown.lt g e).1;show g≠b10;omega)
 ·by_cases e:i<xs.length
  ·rw[List.getElem_append_left e]
   exact(h.ok i e hi').keep hK
  ·have e2:i=k:=by rw[List.length_append,h.len]at hi;simp at hi;rw[h.len]at e;omega
   subst e2;rw[List.getElem_append_right (by rw[h.len];exact Nat.le_refl _)];simp only[h.len,Nat.sub_self,List.getElem_cons_zero];exact hx.keep hK
theorem LawM.low (_:LawM w W b10 ps k u1 u3 bv xs)(hb:Below w.heap.size w W)(hl:w.heap.size<=b10){w9:World}(hW:w.heap.size<=W.heap.size){row:Option Nat}(hr:∀g,row=some g->b10<g)(hg:W.grownBy w9 row)(u:Value):Below w.heap.size w (w9.setCell ⟨b10,1,none⟩ u):=
 (hb.grown hg hW (fun g e=>by have:=hr g e;omega)).setCell (p:=⟨b10,1,none⟩) hl u
theorem LawM.law (h:LawM w W b10 ps ps.length u1 u3 bv xs)(hb:Below w.heap.size w W){d:List Fa}{ts:List Int}(hd:SlIn FaR 4 w w.heap.size d u1)(ht:SlIn (OneR (Value.int .i64)) 1 w w.heap.size ts u3):LawT W W.heap.size d (ps.map pvM) ts (.agg #[u1,bv,u3]):=by
 have hall:∀x∈xs,x.Ok W W.heap.size:=fun x hx=>by
  obtain⟨i,hi,rfl⟩:=List.mem_iff_getElem.1 hx;exact((h.ok i hi (by rw[<-h.len];exact hi)).ok hb).1
 have hm:xs.map (·.p)=ps.map pvM:=by
  refine List.ext_getElem (by rw[List.length_map,List.length_map,h.len]) fun i h1 h2=>?_
  rw[List.getElem_map,List.getElem_map];have hi:i<xs.length:=by simpa using h1
  exact((h.ok i hi (by rw[<-h.len];exact hi)).ok hb).2
 have hp:=own_pvs h.row (Nat.le_refl _) hall;rw[hm]at hp;exact⟨_,_,_,rfl,(hd.below FaR.kept hb).mono FaR.mono hb.size,hp,SlIn.mono (OneR.mono _) hb.size (SlIn.below (OneR.kept _) hb ht)⟩
theorem lwl_re {b:Nat}{d:List Fa}{ts:List Int}{v:Value}{cs:Array Value}(h0:Hid (LawT w w.heap.size d ps ts v))(hT:Hid (TabH w.heap.size w))(low:Hid (Below w.heap.size w W))(box:Hid (Blk W b 28 cs)):Hid (LwL w W b d ps ts v cs):=
 ⟨box.out,(h0.out.below low.out).mono low.out.size,fun w' h'=>hT.out w' (low.out.trans (h'.mono low.out.size)),low.out⟩
end Go.Proofs.YtmafmhlfjficmaaGreatDoor
