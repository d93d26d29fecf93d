/- The arguments opened (formulas, domains, cases); the witness's world; closed facts of the program that every row of this seat asks. No conditions. -/
import Derived.Test.YtihniipjfdenbaaGreatDoorMemA
import Derived.ProofKit
import Derived.OpenShut
import Derived.Deep.Slices
import Derived.Test.YtihniipjfdenbaaGreatDoorTie
import Derived.Test.YtihniipjfdenbaaGreatDoorCards
import Derived.LaidMore
set_option maxRecDepth 100000
namespace Go.Proofs.YtihniipjfdenbaaGreatDoor
open Go.RowKit Go.ChangeShapes Go.ChangeMaps
theorem okWide_struct {P:Program}{w:World}{r:Reach}{b0:Nat}{t:TypeId}{v:Value}{fs:Array Field}(ht:P.underlying t=some (.struct fs))(hval:Value.okWide P w r b0 t v):∃l:List Value,v=.agg l.toArray:=by
 unfold Value.okWide at hval;rw[ht]at hval;obtain⟨cs,h,_⟩:=hval;exact⟨cs.toList,by rw[h]⟩
theorem okWide_slice {P:Program}{w:World}{r:Reach}{b0:Nat}{t e:TypeId}{v:Value}(ht:P.underlying t=some (.slice e))(hval:Value.okWide P w r b0 t v):v.cells.toList=[v]:=by
 unfold Value.okWide at hval;rw[ht]at hval;cases v with| agg cs=>simp[Cell.okWide,Cell.ok,ht]at hval| _=>rfl
section
variable {H : Type} {enc : TypeId × Value -> H} {W : World} {sp : Nat -> Bool} {hd : Bool}
theorem list_of_each {α:Type}{P:Nat->α->Prop}:∀(n:Nat),(∀i,i<n->∃z,P i z)->∃l:List α,l.length=n/\ ∀i (h:i<l.length),P i l[i]
 | 0,_=>⟨[],rfl,fun i h=>by cases h⟩
 | n+1,h=>by{obtain⟨l,hl,hp⟩:=list_of_each n (fun i hi=>h i (by omega));obtain⟨z,hz⟩:=h n (by omega);refine⟨l++[z],by simp[hl],fun i hi=>?_⟩;by_cases e:i<l.length;{rw[List.getElem_append_left e];exact hp i e};{(have:i=l.length:=by simp at hi;omega);subst this;rw[List.getElem_append_right (Nat.le_refl _)];simpa[hl]using hz}}
theorem peel {α:Type}{l:List α}{n:Nat}(h:l.length=n+1):∃v m,l=v::m/\ m.length=n:=by
 cases l with| nil=>cases h| cons v m=>exact⟨v,m,rfl,by simpa using h⟩
theorem len4 {α:Type}{l0:List α}(h0:l0.length=4):∃v0 v1 v2 v3,l0=[v0,v1,v2,v3]:=by
 obtain⟨v0,l1,rfl,h1⟩:=peel h0;obtain⟨v1,l2,rfl,h2⟩:=peel h1;obtain⟨v2,l3,rfl,h3⟩:=peel h2;obtain⟨v3,l4,rfl,h4⟩:=peel h3;obtain rfl:=List.length_eq_zero_iff.1 h4;exact⟨v0,v1,v2,v3,rfl⟩
theorem len5 {α:Type}{l0:List α}(h0:l0.length=5):∃v0 v1 v2 v3 v4,l0=[v0,v1,v2,v3,v4]:=by
 obtain⟨v0,l1,rfl,h1⟩:=peel h0;obtain⟨v1,l2,rfl,h2⟩:=peel h1;obtain⟨v2,l3,rfl,h3⟩:=peel h2;obtain⟨v3,l4,rfl,h4⟩:=peel h3;obtain⟨v4,l5,rfl,h5⟩:=peel h4;obtain rfl:=List.length_eq_zero_iff.1 h5;exact⟨v0,v1,v2,v3,v4,rfl⟩
theorem add_block (a:Addr)(n:Nat):(a.add n).block=a.block:=by unfold Addr.add;split<;>rfl
theorem add_off (a:Addr)(n:Nat):(a.add n).off=a.off+n:=by unfold Addr.add;split<;>simp_all
theorem add_at (a:Addr)(h:a.spot=none)(n:Nat):a.add n=⟨a.block,a.off+n,none⟩:=by
 obtain⟨b,o,s⟩:=a;simp only at h;subst h;unfold Addr.add
 split<;>simp_all
theorem cells_range {a:Addr}{n:Nat}{cs:List Value}(h:W.cells? 0 a n=some cs)(hn:0<n):a.spot=none/\ a.block<W.heap.size/\ cs.length=n/\ W.rangeAt a.block a.off cs:=by
 unfold World.cells? at h;rw[if_pos (Nat.zero_le _)]at h;have hl:cs.length=n:=by simpa using mapM_some_length h
 have hg:∀i (hi:i<n),W.cell? (a.add i)=cs[i]? :=fun i hi=>mapM_some_get h i i (by simp[hi])
 have h0:W.cell? a=some cs[0]:=by{have:=hg 0 hn;rwa[List.getElem?_eq_getElem (by omega),show a.add 0=a by simp[Addr.add]]at this}
 have hs:a.spot=none:=World.cell?_spot h0;refine⟨hs,?_,hl,fun j v hj=>?_⟩
 {exact World.block_lt_of_cell? _ _ h0}
 {(have hj':j<n:=by rw[<-hl];exact(List.getElem?_eq_some_iff.1 hj).1);rw[<-add_at a hs,hg j hj',hj]}
theorem open_sl {α:Type}{R:CellRel α}{t e:TypeId}{k fuel:Nat}{v:Value}{x:DataW H×List MemPlace}(ht:Tryz.prog.underlying t=some (.slice e))(hk:Tryz.prog.cellsOf e=k)(h0:0<k)(h:DataW.trod enc Tryz.prog W 0 sp hd fuel t [v]=some x)
  (he:∀n cs y b o,n<fuel->DataW.trod enc Tryz.prog W 0 sp hd n e cs=some y->b<W.heap.size->W.rangeAt b o cs->cs.length=k->∃z,R W W.heap.size z b o):∃l,SlIn R k W W.heap.size l v:=by
 rcases DataW.trod_slice ht h with⟨hc,_⟩ | ⟨a,len,cap,elems,rest,n,hf,hc,_,_,hl,hm,hlen,hel,_⟩
 {simp only[List.cons.injEq,and_true]at hc;subst hc;exact⟨[],none,0,rfl,Nat.le_refl _,Nat.zero_le _,fun e=>absurd rfl e⟩}
 {simp only[List.cons.injEq,and_true]at hc;subst hc;have key:∀i,i<len->(a.add (i*k)).spot=none/\ a.block<W.heap.size/\ ∃z,R W W.heap.size z a.block (a.off+i*k):=by{intro i hi;have hi2:=hel i hi;rw[List.getElem?_eq_getElem (by omega)]at hi2;obtain⟨cs',h1,h2⟩:=Option.bind_eq_some_iff.1 hi2;rw[hk]at h1;obtain⟨s1,s2,s3,s4⟩:=cells_range h1 h0;rw[add_block]at s2;rw[add_block,add_off]at s4;exact⟨s1,s2,he n cs' _ a.block (a.off+i*k) (by omega) h2 s2 s4 s3⟩};obtain⟨l,hll,hl2⟩:=list_of_each len (fun i hi=>(key i hi).2.2);refine⟨l,some a,cap,by rw[hll],by omega,hm,fun hne=>?_⟩;have hpos:0<len:=by{(rcases Nat.eq_zero_or_pos len with h | h);{exact absurd (List.length_eq_zero_iff.1 (by omega)) hne};{exact h}};obtain⟨k1,k2,_⟩:=key 0 hpos;rw[Nat.zero_mul,show a.add 0=a by simp[Addr.add]]at k1;refine⟨a.block,a.off,?_,k2,fun i hi=>hl2 i hi⟩;obtain⟨b,o,s⟩:=a;simp only at k1;rw[k1]}
theorem wf64 {n:Int}(h:(Lit.int .i64 n).wf=true):W64 n:=bounds_i64 h
theorem c3 :Tryz.prog.cellsOf 3=1:=by kernel_rfl
theorem c9 :Tryz.prog.cellsOf 9=1:=by kernel_rfl
theorem c24 :Tryz.prog.cellsOf 47=5:=by kernel_rfl
theorem c22 :Tryz.prog.cellsOf 45=1:=by kernel_rfl
theorem c27 :Tryz.prog.cellsOf 25=1:=by kernel_rfl
theorem c25 :Tryz.prog.cellsOf 23=1:=by kernel_rfl
theorem c110 :Tryz.prog.cellsOf 86=4:=by kernel_rfl
theorem open_n {fuel:Nat}{v:Value}{y:Option (DataW H×List MemPlace)}(h:DataW.trod enc Tryz.prog W 0 sp hd fuel 3 [v]=y)(hy:y.isSome=true):∃n,v=.int .i64 n/\ W64 n:=by
 obtain⟨x,rfl⟩:=Option.isSome_iff_exists.1 hy;obtain⟨n,hc,_,hw⟩:=DataW.trod_int Tryz.underlying3 h;exact⟨n,by simpa using hc,wf64 hw⟩
theorem open_s {fuel:Nat}{v:Value}{y:Option (DataW H×List MemPlace)}(h:DataW.trod enc Tryz.prog W 0 sp hd fuel 9 [v]=y)(hy:y.isSome=true):∃s,v=.string s/\ s.size<=maxLen:=by
 obtain⟨x,rfl⟩:=Option.isSome_iff_exists.1 hy;obtain⟨s,hc,_,hw⟩:=DataW.trod_string Tryz.underlying9 h;exact⟨s,by simpa using hc,hw⟩
theorem at_some {α:Type}{xs:List α}{n i:Nat}(h:xs.length=n)(hi:i<n):(xs[i]?).isSome=true:=by rw[List.getElem?_eq_getElem (by omega)];rfl
theorem open_ints_in {t:TypeId}(ht:Tryz.prog.underlying t=some (.slice 3)){fuel:Nat}{v:Value}{y:Option (DataW H×List MemPlace)}(h:DataW.trod enc Tryz.prog W 0 sp hd fuel t [v]=y)(hy:y.isSome=true):∃l,IntsIn W W.heap.size l v:=by
 obtain⟨x,rfl⟩:=Option.isSome_iff_exists.1 hy;refine open_sl ht c3 (by decide) h (fun n cs y b o _ hy hb hr hl=>?_);obtain⟨s,rfl,_⟩:=DataW.trod_int Tryz.underlying3 hy;exact⟨s,hr 0 _ rfl⟩
theorem inL_mk {B b:Nat}:∀(n off:Nat),(∀i,i<n->∃(f:Fo) (v0 v1 v2 v3 v4:Value),W.cell? ⟨b,off+i*5,none⟩=some v0/\ W.cell? ⟨b,off+i*5+1,none⟩=some v1/\ W.cell? ⟨b,off+i*5+2,none⟩=some v2/\ W.cell? ⟨b,off+i*5+3,none⟩=some v3/\
  W.cell? ⟨b,off+i*5+4,none⟩=some v4/\ f.In W B (.agg #[v0,v1,v2,v3,v4]))->∃ks:List Fo,ks.length=n/\ Fo.InL W B ks b off
 | 0,off,_=>⟨[],rfl,trivial⟩
 | n+1,off,h=>by
  obtain⟨ks,hk,hL⟩:=inL_mk n (off+5) (fun i hi=>by
   obtain⟨f,v0,v1,v2,v3,v4,h0,h1,h2,h3,h4,h5⟩:=h (i+1) (by omega)
   rw[show off+(i+1)*5=off+5+i*5 by omega]at h0 h1 h2 h3 h4
   exact⟨f,v0,v1,v2,v3,v4,h0,h1,h2,h3,h4,h5⟩)
  obtain⟨f,v0,v1,v2,v3,v4,h0,h1,h2,h3,h4,h5⟩:=h 0 (by omega);rw[Nat.zero_mul,Nat.add_zero]at h0 h1 h2 h3 h4;exact⟨f::ks,by simp[hk],⟨v0,v1,v2,v3,v4,h0,h1,h2,h3,h4,h5⟩,hL⟩
theorem open_fo (N:Nat):∀(fuel:Nat) (cs:List Value) (x:DataW H×List MemPlace),fuel<N->DataW.trod enc Tryz.prog W 0 sp hd fuel 47 cs=some x->∃f:Fo,f.In W W.heap.size (.agg cs.toArray):=by
 induction N with
 | zero=>intro fuel _ _ h;omega
 | succ N ih=>
 intro fuel cs x hN h;obtain⟨xs,n,hf,_,hlen,hxs,hx⟩:=DataW.trod_struct Tryz.underlying47 h;rw[c24]at hlen;have hxs:xs.length=5:=hxs;obtain⟨v0,v1,v2,v3,v4,rfl⟩:=len5 hlen
 ·skip
  have f0:=hx 0 _ rfl;have f1:=hx 1 _ rfl;have f2:=hx 2 _ rfl;have f3:=hx 3 _ rfl;have f4:=hx 4 _ rfl;simp only[List.getElem_toArray,List.getElem_cons_zero]at f0;simp only[List.getElem_toArray,List.getElem_cons_zero,List.getElem_cons_succ]at f1;simp only[List.getElem_toArray,List.getElem_cons_zero,List.getElem_cons_succ]at f2;simp only[List.getElem_toArray,List.getElem_cons_zero,List.getElem_cons_succ]at f3;simp only[List.getElem_toArray,List.getElem_cons_zero,List.getElem_cons_succ]at f4;rw[c3]at f0 f2 f3;rw[c9]at f1;rw[c22]at f4;obtain⟨op,rfl,o1⟩:=open_n f0 (at_some hxs (by decide));obtain⟨nm,rfl,o2⟩:=open_s f1 (at_some hxs (by decide));obtain⟨cm,rfl,o3⟩:=open_n f2 (at_some hxs (by decide));obtain⟨m,rfl,o4⟩:=open_n f3 (at_some hxs (by decide));rw[List.getElem?_eq_getElem (by omega)]at f4
  replace f4:DataW.trod enc Tryz.prog W 0 sp hd n 45 [v4]=some xs[4]:=f4
  rcases DataW.trod_slice Tryz.underlying45 f4 with⟨hc,_⟩ | ⟨a,len,cap,elems,rest,n',hf',hc,_,_,hl,hm,hlen,hel,_⟩
  {simp only[List.cons.injEq,and_true]at hc;subst hc;exact⟨.mk op nm cm m [],none,0,rfl,o1,o3,o4,o2,Nat.le_refl _,Nat.zero_le _,fun e=>absurd rfl e⟩}
  ·simp only[List.cons.injEq,and_true]at hc
   subst hc
   have key:∀i,i<len->(a.add (i*5)).spot=none/\ a.block<W.heap.size/\ ∃(f:Fo) (v0 v1 v2 v3 v4:Value),W.cell? ⟨a.block,a.off+i*5,none⟩=some v0/\ W.cell? ⟨a.block,a.off+i*5+1,none⟩=some v1/\ W.cell? ⟨a.block,a.off+i*5+2,none⟩=some v2/\ W.cell? ⟨a.block,a.off+i*5+3,none⟩=some v3/\
     W.cell? ⟨a.block,a.off+i*5+4,none⟩=some v4/\ f.In W W.heap.size (.agg #[v0,v1,v2,v3,v4]):=by
    intro i hi;have hi2:=hel i hi;rw[List.getElem?_eq_getElem (by omega)]at hi2;obtain⟨cs',h1,h2⟩:=Option.bind_eq_some_iff.1 hi2;rw[c24]at h1;obtain⟨s1,s2,s3,s4⟩:=cells_range h1 (by decide);rw[add_block]at s2;rw[add_block,add_off]at s4;refine⟨s1,s2,?_⟩;obtain⟨f,hfi⟩:=ih n' cs' _ (by omega) h2;obtain⟨u0,u1,u2,u3,u4,rfl⟩:=len5 s3;exact⟨f,u0,u1,u2,u3,u4,s4 0 _ rfl,s4 1 _ rfl,s4 2 _ rfl,s4 3 _ rfl,s4 4 _ rfl,hfi⟩
   obtain⟨ks,hk,hL⟩:=inL_mk (W:=W) (B:=W.heap.size) (b:=a.block) len a.off (fun i hi=>(key i hi).2.2);refine⟨.mk op nm cm m ks,some a,cap,by rw[hk],o1,o3,o4,o2,by omega,hm,fun hne=>?_⟩
   have hpos:0<len:=by{(rcases Nat.eq_zero_or_pos len with h | h);{exact absurd (List.length_eq_zero_iff.1 (by omega)) hne};{exact h}}
   obtain⟨k1,k2,_⟩:=key 0 hpos;rw[Nat.zero_mul,show a.add 0=a by simp[Addr.add]]at k1;refine⟨a.block,a.off,?_,k2,hL⟩;obtain⟨b,o,s⟩:=a;simp only at k1;rw[k1]
theorem open_fa {fuel:Nat}{v:Value}{y:Option (DataW H×List MemPlace)}(h:DataW.trod enc Tryz.prog W 0 sp hd fuel 23 [v]=y)(hy:y.isSome=true):∃d,SlIn FaR 4 W W.heap.size d v:=by
 obtain⟨x,rfl⟩:=Option.isSome_iff_exists.1 hy;refine open_sl Tryz.underlying23 c110 (by decide) h (fun n cs y b o _ hy hb hr hl=>?_);obtain⟨xs,n,hf,_,_,hxs,hx⟩:=DataW.trod_struct Tryz.underlying86 hy;have hxs:xs.length=4:=hxs;obtain⟨v0,v1,v2,v3,rfl⟩:=len4 hl
 {skip;have f0:=hx 0 _ rfl;have f1:=hx 1 _ rfl;have f2:=hx 2 _ rfl;have f3:=hx 3 _ rfl;simp only[List.getElem_toArray,List.getElem_cons_zero]at f0;simp only[List.getElem_toArray,List.getElem_cons_zero,List.getElem_cons_succ]at f1;simp only[List.getElem_toArray,List.getElem_cons_zero,List.getElem_cons_succ]at f2;simp only[List.getElem_toArray,List.getElem_cons_zero,List.getElem_cons_succ]at f3;rw[c3]at f1 f2 f3;rw[c9]at f0;obtain⟨nm,rfl,o0⟩:=open_s f0 (at_some hxs (by decide));obtain⟨k,rfl,o1⟩:=open_n f1 (at_some hxs (by decide));obtain⟨lo,rfl,o2⟩:=open_n f2 (at_some hxs (by decide));obtain⟨hi,rfl,o3⟩:=open_n f3 (at_some hxs (by decide));exact⟨⟨nm,k,lo,hi⟩,hr 0 _ rfl,hr 1 _ rfl,hr 2 _ rfl,hr 3 _ rfl,o0,o1,o2,o3⟩}
theorem arg_case {r:Reach}{b0:Nat}{v:Value}{d:DataW H}{ps:List MemPlace}(hval:Value.okWide Tryz.prog W r b0 27 v)(h:DataW.Trod enc Tryz.prog W 0 sp hd 27 v d ps):∃c,IntsIn W W.heap.size c v:=by
 obtain⟨fuel,hf⟩:=h;rw[okWide_slice Tryz.underlying27 hval]at hf;exact open_ints_in Tryz.underlying27 hf rfl
theorem arg_dom {r:Reach}{b0:Nat}{v:Value}{d:DataW H}{ps:List MemPlace}(hval:Value.okWide Tryz.prog W r b0 25 v)(h:DataW.Trod enc Tryz.prog W 0 sp hd 25 v d ps):∃ds,DomIn W W.heap.size ds v:=by
 obtain⟨fuel,hf⟩:=h;obtain⟨l,rfl⟩:=okWide_struct Tryz.underlying25 hval;obtain⟨ys,n',_,_,hlen,hys,hy⟩:=DataW.trod_struct Tryz.underlying25 hf;rw[c27]at hlen;obtain⟨v0,l1,rfl,hl1⟩:=peel hlen;obtain rfl:=List.length_eq_zero_iff.1 hl1;have hys:ys.length=1:=hys;have g0:=hy 0 _ rfl;simp only[List.getElem_toArray,List.getElem_cons_zero]at g0;rw[c25]at g0;obtain⟨ds,hds⟩:=open_fa g0 (at_some hys (by decide));exact⟨ds,v0,rfl,hds⟩
theorem arg_string {r:Reach}{b0:Nat}{v:Value}{d:DataW H}{ps:List MemPlace}(hval:Value.okWide Tryz.prog W r b0 9 v)(h:DataW.Trod enc Tryz.prog W 0 sp hd 9 v d ps):∃s:ByteArray,v=.string s/\ s.size<=maxLen:=by
 obtain⟨s,e,_,_,hs⟩:=open_string Tryz.underlying9 hval h;exact⟨s,e,hs⟩
theorem trodAll_five {t t' t'' t3 t4:TypeId}{args:Array Value}{ds:List (DataW H)}{ps:List MemPlace}(h:DataW.TrodAll enc Tryz.prog W 0 sp hd [t,t',t'',t3,t4] args.toList ds ps):
  ∃v v' v'' v3 v4 d d' d'' d3 d4 p p' p'' p3 p4,args=#[v,v',v'',v3,v4]/\ ds=[d,d',d'',d3,d4]/\ ps=p++p'++p''++p3++p4/\ DataW.Trod enc Tryz.prog W 0 sp hd t v d p/\ DataW.Trod enc Tryz.prog W 0 sp hd t' v' d' p'/\ DataW.Trod enc Tryz.prog W 0 sp hd t'' v'' d'' p''/\ DataW.Trod enc Tryz.prog W 0 sp hd t3 v3 d3 p3/\ DataW.Trod enc Tryz.prog W 0 sp hd t4 v4 d4 p4:=by
 obtain⟨v,vs,d,ds',p,q,hargs,rfl,rfl,hd0,hrest⟩:=trodAll_cons h;obtain⟨v',vs',d',ds'',p',q',rfl,rfl,rfl,hd',hrest'⟩:=trodAll_cons hrest;obtain⟨v'',vs'',d'',ds''',p'',q'',rfl,rfl,rfl,hd'',hrest''⟩:=trodAll_cons hrest';obtain⟨v3,vs3,d3,ds3,p3,q3,rfl,rfl,rfl,hd3,hrest3⟩:=trodAll_cons hrest'';obtain⟨v4,vs4,d4,ds4,p4,q4,rfl,rfl,rfl,hd4,hrest4⟩:=trodAll_cons hrest3;obtain⟨rfl,rfl,rfl⟩:=trodAll_nil hrest4;exact⟨v,v',v'',v3,v4,d,d',d'',d3,d4,p,p',p'',p3,p4,by cases args;simp_all,rfl,by simp,hd0,hd',hd'',hd3,hd4⟩
theorem trodAll_mk5 {t t' t'' t3 t4:TypeId}{v v' v'' v3 v4:Value}{d d' d'' d3 d4:DataW H}{p p' p'' p3 p4:List MemPlace}(h:DataW.Trod enc Tryz.prog W 0 sp hd t v d p)(h':DataW.Trod enc Tryz.prog W 0 sp hd t' v' d' p')
  (h'':DataW.Trod enc Tryz.prog W 0 sp hd t'' v'' d'' p'') (h3:DataW.Trod enc Tryz.prog W 0 sp hd t3 v3 d3 p3) (h4:DataW.Trod enc Tryz.prog W 0 sp hd t4 v4 d4 p4):DataW.TrodAll enc Tryz.prog W 0 sp hd [t,t',t'',t3,t4] [v,v',v'',v3,v4] [d,d',d'',d3,d4] (p++(p'++(p''++(p3++p4)))):=
 ⟨p,p'++(p''++(p3++p4)),h,trodAll_mk4 h' h'' h3 h4,rfl⟩
end
open Go Go.RowKit Go.ChangeShapes
theorem own :ownKnob Tryz.prog.godebug=none:=by kernel_rfl
theorem laidOut :laidOutB Tryz.prog=true:=by kernel_rfl
def laid5 :List (String×DataW Unit):=[("math/bits.deBruijn32tab",Rows.laid_math_bits_deBruijn32tab),("math/bits.deBruijn64tab",Rows.laid_math_bits_deBruijn64tab),("internal/strconv.uint64pow10",Rows.laid_internal_strconv_uint64pow10),("strconv.ErrRange",Rows.laid_strconv_ErrRange),("strconv.ErrSyntax",Rows.laid_strconv_ErrSyntax)]
theorem door_met (os:Os)(args:Array Value):laidMetH Tryz.prog laid5 ((World.doorLaid Tryz.prog 2000 os).forCall (fun _ _=>0) ⟨#[],args,[]⟩).memory:=
 laidMetH_of_parts3 (fuel:=8) (laidMet_of_run' 8 (by kernel_rfl) (by kernel_rfl)) (by kernel_rfl) (by kernel_rfl)
open Go
theorem jRowed :mapsRowed Tryz.prog=true:=by kernel_rfl
theorem jStops :(Tryz.prog.stops==[])=true:=by kernel_rfl
theorem jKnobs :(Tryz.prog.stopKnobs==[])=true:=by kernel_rfl
theorem jHeard :Tryz.prog.stopsHeard=true:=by kernel_rfl
theorem jEnter :Tryz.prog.mayEnter=true:=by kernel_rfl
theorem jLooks :true=Tryz.prog.looks []:=by kernel_rfl
theorem and1 {a b:Bool}(h:a=true)(k:b=true):(a&& b)=true:=by rw[h,k];rfl
end Go.Proofs.YtihniipjfdenbaaGreatDoor
