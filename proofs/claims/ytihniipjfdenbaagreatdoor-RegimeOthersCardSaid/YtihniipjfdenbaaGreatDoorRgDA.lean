/- The walks of the analyst's methods build and and. A bound on the conditions' sizes. -/
import Derived.Test.YtihniipjfdenbaaGreatDoorRgPA
import Derived.Test.YtihniipjfdenbaaGreatDoorDgBB
import Derived.Test.YtihniipjfdenbaaGreatDoorDgNt
set_option maxRecDepth 100000
set_option maxHeartbeats 4000000
namespace Go.Proofs.YtihniipjfdenbaaGreatDoor
open Go.RowKit
structure FnA where
 f:Fnd
 ac:Option Addr
 cc:Nat
 ai:Option Addr
 ci:Nat
def FnA.cells (x:FnA):List Value:=[.int .i64 x.f.kind,.string x.f.question,.int .i64 x.f.day,.slice x.ac x.f.cse.length x.cc,.slice x.ai x.f.ids.length x.ci]
theorem FnA.ones (x:FnA):∀u∈x.cells,u.oneCell'=true:=fun u hu=>by
 simp only[FnA.cells,List.mem_cons,List.not_mem_nil,or_false]at hu;rcases hu with rfl | rfl | rfl | rfl | rfl<;>rfl
def FnR :CellRel Fnd:=fun w B x b o=>∃y:FnA,y.f=x/\ w.rangeAt b o y.cells/\ IntsIn w B x.cse (.slice y.ac x.cse.length y.cc)/\ StrsIn w B x.ids (.slice y.ai x.ids.length y.ci)
theorem FnR.kept :FnR.Kept:=by
 rintro w w' B x b o hb hlt ⟨y,rfl,hr,h1,h2⟩;exact⟨y,rfl,fun j v hv=>by rw[hb.cell (p:=⟨b,o+j,none⟩) hlt];exact hr j v hv,SlIn.below (OneR.kept _) hb h1,SlIn.below (OneR.kept _) hb h2⟩
theorem FnR.mono :FnR.Mono:=by
 rintro w B B' x b o hb ⟨y,rfl,hr,h1,h2⟩;exact⟨y,rfl,hr,SlIn.mono (OneR.mono _) hb h1,SlIn.mono (OneR.mono _) hb h2⟩
structure FnA.Ok (W : World) (O : Nat) (g : Option Nat) (x : FnA) : Prop where
 cse:IntsIn W W.heap.size x.f.cse (.slice x.ac x.f.cse.length x.cc)
 ids:StrsIn W W.heap.size x.f.ids (.slice x.ai x.f.ids.length x.ci)
 farc:∀a,x.ac=some a->a.block≠O/\ some a.block≠g/\ a.block<W.heap.size
 fari:∀a,x.ai=some a->a.block≠O/\ some a.block≠g/\ a.block<W.heap.size
theorem FnA.Ok.below {W W':World}{O:Nat}{g:Option Nat}{x:FnA}(h:x.Ok W O g)(hb:Below W.heap.size W W'):x.Ok W' O g:=
  ⟨SlIn.mono (OneR.mono _) hb.size (SlIn.below (OneR.kept _) hb h.cse),SlIn.mono (OneR.mono _) hb.size (SlIn.below (OneR.kept _) hb h.ids),
   fun a ha=>⟨(h.farc a ha).1,(h.farc a ha).2.1,Nat.lt_of_lt_of_le (h.farc a ha).2.2 hb.size⟩,fun a ha=>⟨(h.fari a ha).1,(h.fari a ha).2.1,Nat.lt_of_lt_of_le (h.fari a ha).2.2 hb.size⟩⟩
theorem one_far {α:Type}{enc:α->Value}{W W':World}{l:List α}{a:Option Addr}{n c:Nat}(h:SlIn (OneR enc) 1 W W.heap.size l (.slice a n c)){row:Option Nat}(hg:W.grownBy W' row)(hf:∀x,a=some x->some x.block≠row):SlIn (OneR enc) 1 W' W'.heap.size l (.slice a n c):=by
 obtain⟨ao,cap,e,h1,h2,h3⟩:=h;cases e
 refine⟨a,c,rfl,h1,h2,fun hne=>?_⟩;obtain⟨b,off,rfl,hlt,hc⟩:=h3 hne;exact⟨b,off,rfl,Nat.lt_of_lt_of_le hlt hg.size,fun i hi=>(hg.cell_far ⟨b,off+i*1,none⟩ hlt (hf ⟨b,off,none⟩ rfl)).trans (hc i hi)⟩
theorem FnA.Ok.grown {W W':World}{O:Nat}{g g':Option Nat}{x:FnA}(h:x.Ok W O g){row:Option Nat}(hg:W.grownBy W' row)(hr:row=none\/row=g\/row=some O)(hg':g'=g\/g'=some W.heap.size):x.Ok W' O g':=by
 have hne:∀a:Addr,a.block≠O/\ some a.block≠g/\ a.block<W.heap.size->some a.block≠row/\ a.block≠O/\ some a.block≠g'/\ a.block<W'.heap.size:=fun a ⟨h1,h2,h3⟩=>by{refine⟨?_,h1,?_,Nat.lt_of_lt_of_le h3 hg.size⟩;{(rcases hr with rfl | rfl | rfl);{simp};{exact h2};{simpa using h1}};{(rcases hg' with rfl | rfl);{exact h2};{simp;omega}}}
 exact⟨one_far h.cse hg fun a ha=>(hne a (h.farc a ha)).1,one_far h.ids hg fun a ha=>(hne a (h.fari a ha)).1,fun a ha=>(hne a (h.farc a ha)).2,fun a ha=>(hne a (h.fari a ha)).2⟩
theorem flatF_get :∀(xs:List FnA) (i j:Nat) (hi:i<xs.length),j<5->(xs.flatMap FnA.cells)[i*5+j]? =xs[i].cells[j]?
 | x::xs,0,j,_,hj=>by{rw[List.flatMap_cons,List.getElem?_append_left (by show _<5;omega)];simp}
 | x::xs,i+1,j,hi,hj=>by{rw[List.flatMap_cons,List.getElem?_append_right (by show 5<=_;omega),show(i+1)*5+j-x.cells.length=i*5+j by show _-5=_;omega,flatF_get xs i j (by simpa using hi) hj];simp}
theorem own_fns {W:World}{base:Nat}{v:Value}{xs:List FnA}{e:TypeId}(h:W.ownsRow base e 5 v xs.length (xs.flatMap FnA.cells)){O:Nat}{g:Option Nat}(hx:∀x∈xs,x.Ok W O g):SlIn FnR 5 W W.heap.size (xs.map (·.f)) v:=by
 rcases h.2 with⟨rfl,h0⟩ | ⟨g,cap,cur,rfl,_,hg,h1,h2,h3,h4⟩
 {have:xs=[]:=List.length_eq_zero_iff.1 h0;subst this;exact⟨none,0,rfl,Nat.zero_le _,Nat.zero_le _,fun e=>absurd rfl e⟩}
 {refine⟨some ⟨g,0,none⟩,cap,by rw[List.length_map],by rw[List.length_map];exact h1,h2,fun _=>⟨g,0,rfl,(Array.getElem?_eq_some_iff.1 hg).1,fun i hi=>?_⟩⟩;(have hi':i<xs.length:=by simpa using hi);have k:=hx xs[i] (List.getElem_mem hi');rw[List.getElem_map];refine⟨xs[i],rfl,fun j u hj=>?_,k.cse,k.ids⟩;have hj':j<5:=by{(rcases Nat.lt_or_ge j 5 with h | h);{exact h};{rw[List.getElem?_eq_none (by exact h)]at hj;cases hj}};(have h5:(cur.toList.take (xs.length*5))[i*5+j]? =(xs.flatMap FnA.cells)[i*5+j]? :=by rw[h4]);rw[List.getElem?_take_of_lt (by omega),flatF_get xs i j hi' hj']at h5;show W.cell? ⟨g,0+i*5+j,none⟩=some u;simp only[World.cell?,hg];rw[Nat.zero_add];have:cur[i*5+j]? =some u:=by{rw[<-Array.getElem?_toList,h5];exact hj};simpa using this}
section
structure AnStp (A : Nat) (W W' : World) : Prop where
 os:W'.os=W.os
 tape:W'.tape=W.tape
 output:W'.output=W.output
 size:W.heap.size<=W'.heap.size
 old:∀b,b<W.heap.size->b≠A->W'.heap[b]? =W.heap[b]?
section
variable {A : Nat} {W W' W'' : World}
theorem AnStp.of_below (h:Below W.heap.size W W'):AnStp A W W':=⟨h.os,h.tape,h.output,h.size,fun b hb _=>h.block b hb⟩
theorem AnStp.trans (h:AnStp A W W')(k:AnStp A W' W''):AnStp A W W'':=⟨k.os.trans h.os,k.tape.trans h.tape,k.output.trans h.output,Nat.le_trans h.size k.size,fun b hb hne=>(k.old b (Nat.lt_of_lt_of_le hb h.size) hne).trans (h.old b hb hne)⟩
theorem AnStp.below (h:AnStp A W W'){B:Nat}(hB:B<=W.heap.size)(hA:B<=A):Below B W W':=⟨h.os,h.tape,h.output,h.size,fun b hb=>h.old b (by omega) (by omega)⟩
theorem AnStp.set (h:AnStp A W W')(i:Nat)(v:Value):AnStp A W (W'.setCell ⟨A,i,none⟩ v):=
 ⟨h.os,h.tape,h.output,by rw[World.size_setCell];exact h.size,fun b hb hne=>(heap_setCell_other W' ⟨A,i,none⟩ b v hne).trans (h.old b hb hne)⟩
theorem AnStp.blk (h:AnStp A W W'){b:Nat}{t:TypeId}{cs:Array Value}(hb:Blk W b t cs)(hne:b≠A):Blk W' b t cs:=(h.old b hb.lt hne).trans hb
theorem AnStp.cell (h:AnStp A W W'){b o:Nat}(hb:b<W.heap.size)(hne:b≠A):W'.cell? ⟨b,o,none⟩=W.cell? ⟨b,o,none⟩:=by simp only[World.cell?,h.old b hb hne]
theorem row_pick {α:Type}{R:CellRel α}{k:Nat}{w:World}{B n b off:Nat}(h:∀i,i<n->∃x,R w B x b (off+i*k)):∃l:List α,l.length=n/\ ∀(i:Nat) (h:i<l.length),R w B l[i] b (off+i*k):=
 ⟨List.ofFn fun i:Fin n=>(h i.1 i.2).choose,List.length_ofFn,fun i hi=>by
  rw[List.getElem_ofFn]
  exact(h i (by simpa using hi)).choose_spec⟩
variable {t : TypeId} {u u' : Value} {e e' : Int}
theorem ints_spoil (hA:Blk W A t #[u,.int .i64 e])(hA':Blk W' A t #[u',.int .i64 e'])(hu:∀x,u≠ .int .i64 x)(hs:AnStp A W W'){B:Nat}(hB:B<=W.heap.size){l:List Int}{v:Value}(h:IntsIn W B l v):∃l':List Int,l'.length=l.length/\ IntsIn W' B l' v:=by
 obtain⟨ao,cap,rfl,h1,h2,h3⟩:=h;by_cases hne:l=[]
 {exact⟨[],by rw[hne],ao,cap,by rw[hne],by simp,h2,fun hh=>absurd rfl hh⟩}
 ·obtain⟨b,off,rfl,hlt,hc⟩:=h3 hne
  obtain⟨l',e1,e2⟩:=row_pick (R:=OneR (Value.int .i64)) (k:=1) (w:=W') (B:=B) (n:=l.length) (b:=b) (off:=off) fun i hi=>by
   have hci:W.cell? ⟨b,off+i*1,none⟩=some (.int .i64 l[i]):=hc i hi;by_cases hb:b=A
   ·subst hb
    rw[hA.cell]at hci;refine⟨e',?_⟩
    show W'.cell? ⟨b,off+i*1,none⟩=some (.int .i64 e')
    rw[hA'.cell]
    match hk:off+i*1 with| 0=>rw[hk]at hci;simp at hci;exact absurd hci (hu _)| 1=>simp| k+2=>rw[hk]at hci;simp at hci
   {exact⟨l[i],(hs.cell (by omega) hb).trans hci⟩}
  exact⟨l',e1,some ⟨b,off,none⟩,cap,by rw[e1],by rw[e1];exact h1,h2,fun _=>⟨b,off,rfl,hlt,e2⟩⟩
theorem nodes_spoil (hA:Blk W A t #[u,.int .i64 e])(hA':Blk W' A t #[u',.int .i64 e'])(hu:∀x,u≠ .int .i64 x)(hs:AnStp A W W'){B:Nat}(hB:B<=W.heap.size){l:List Dn}{v:Value}(h:SlIn DnR 4 W B l v):∃l':List Dn,l'.length=l.length/\ SlIn DnR 4 W' B l' v:=by
 obtain⟨ao,cap,rfl,h1,h2,h3⟩:=h;by_cases hne:l=[]
 {exact⟨[],by rw[hne],ao,cap,by rw[hne],by simp,h2,fun hh=>absurd rfl hh⟩}
 {obtain⟨b,off,rfl,hlt,hc⟩:=h3 hne;(obtain⟨l',e1,e2⟩:=row_pick (R:=DnR) (k:=4) (w:=W') (B:=B) (n:=l.length) (b:=b) (off:=off) fun i hi=>by{obtain⟨vc,vk,c0,c1,c2,c3,k1,k2⟩:=hc i hi;(have hb:b≠A:=fun hb=>by{subst hb;rw[hA.cell]at c3;simp at c3});obtain⟨l1,_,q1⟩:=ints_spoil hA hA' hu hs hB k1;obtain⟨l2,_,q2⟩:=ints_spoil hA hA' hu hs hB k2;(have hbW:b<W.heap.size:=by omega);exact⟨⟨l[i].fact,l1,l2,l[i].leaf⟩,vc,vk,(hs.cell hbW hb).trans c0,(hs.cell hbW hb).trans c1,(hs.cell hbW hb).trans c2,(hs.cell hbW hb).trans c3,q1,q2⟩});exact⟨l',e1,some ⟨b,off,none⟩,cap,by rw[e1],by rw[e1];exact h1,h2,fun _=>⟨b,off,rfl,hlt,e2⟩⟩}
theorem set_same1 {b:Nat}{v:Value}(h:Blk W b t #[u,v]):W.setCell ⟨b,1,none⟩ v=W:=by
 have e:(W.setCell ⟨b,1,none⟩ v).heap=W.heap:=by{apply Array.ext_getElem?;intro i;by_cases hi:i=b;{subst hi;rw[heap_setCell_same W i 1 _ _ v h,show W.heap[i]? =_ from h];rfl};{exact heap_setCell_other W ⟨b,1,none⟩ i v hi}}
 cases W
 simp only[World.setCell]at e⊢;rw[e]
theorem blk_set1 {b:Nat}{v v':Value}(h:Blk W b t #[u,v]):Blk (W.setCell ⟨b,1,none⟩ v') b t #[u,v']:=by
 show(W.setCell ⟨b,1,none⟩ v').heap[b]? =_
 rw[heap_setCell_same W b 1 _ _ v' h]
 rfl
end
def DgAny (W:World)(v:Value):Prop:=∃g:List Dn,g.length<=1000000/\ DgIn W W.heap.size g v
theorem DgAny.below {W W':World}{v:Value}(h:DgAny W v)(hb:Below W.heap.size W W'):DgAny W' v:=by
 obtain⟨g,h1,h2⟩:=h;exact⟨g,h1,(h2.below hb).mono hb.size⟩
abbrev AnB (W:World)(A:Nat)(ad:Option Addr)(n c:Nat)(e:Int):Prop:=Blk W A 72 #[.slice ad n c,.int .i64 e]
theorem DgAny.spoil {W W':World}{A:Nat}{ad:Option Addr}{n c:Nat}{e e':Int}{v:Value}(h:DgAny W v)(hA:AnB W A ad n c e)(hA':AnB W' A ad n c e')(hs:AnStp A W W'):DgAny W' v:=by
 obtain⟨g,h1,u,rfl,h2⟩:=h;obtain⟨g',e1,e2⟩:=nodes_spoil hA hA' (fun x hx=>by cases hx) hs (Nat.le_refl _) h2;exact⟨g',by omega,u,rfl,SlIn.mono DnR.mono hs.size e2⟩
structure AnQ (d : List Fa) (A : Nat) (ad : Option Addr) (cd : Nat) (st : List Dn × Int) (W W' : World) (v : Value) : Prop where
 step:AnStp A W W'
 same:st.2=0->Below W.heap.size W W'
 box:AnB W' A ad d.length cd st.2
 dg:st.2=0->DgIn W' W'.heap.size st.1 v
 any:DgAny W' v
theorem valid_len {d:List Fa}{t:List Dn}(h:ValidG d t):t.length<=1000000:=by have:=h.few;omega
variable {d : List Fa} {A : Nat} {ad : Option Addr} {cd : Nat} {W W1 W2 W3 : World}
theorem AnQ.idle {e:Int}{g:List Dn}{v:Value}(hA:AnB W A ad d.length cd e)(he:e≠0)(hb:Below W.heap.size W W1)(hv:DgAny W v):AnQ d A ad cd (g,e) W W1 v:=
 ⟨.of_below hb,fun h=>absurd h he,hA.below hb,fun h=>absurd h he,hv.below hb⟩
theorem AnQ.put {e:Int}{g:List Dn}{v:Value}(hA:AnB W A ad d.length cd 0)(hb:Below W.heap.size W W1)(hg:DgIn W1 W1.heap.size g v)(hl:g.length<=1000000):AnQ d A ad cd (g,e) W (W1.setCell ⟨A,1,none⟩ (.int .i64 e)) v:=by
 have hA1:AnB W1 A ad d.length cd 0:=hA.below hb;by_cases he:e=0
 {subst he;rw[set_same1 hA1];exact⟨.of_below hb,fun _=>hb,hA1,fun _=>hg,g,hl,hg⟩}
 {have hs:AnStp A W1 (W1.setCell ⟨A,1,none⟩ (.int .i64 e)):=(AnStp.of_below (Below.refl _ _)).set 1 _;have hA2:AnB (W1.setCell ⟨A,1,none⟩ (.int .i64 e)) A ad d.length cd e:=blk_set1 hA1;exact⟨(AnStp.of_below hb).trans hs,fun h=>absurd h he,hA2,fun h=>absurd h he,DgAny.spoil ⟨g,hl,hg⟩ hA1 hA2 hs⟩}
theorem AnQ.round {st:List Dn×Int}{f:Fo}{v v1 v2 v3:Value}{t2:List Dn}(h:AnQ d A ad cd st W W1 v)(h1:AnQ d A ad cd (if st.2=0 then buildX d f else([],st.2)) W1 W2 v1)(hn:Below W2.heap.size W2 W3)
  (_:DgIn W3 W3.heap.size (notD t2) v2) (ht:(if st.2=0 then buildX d f else([],st.2)).2=0->t2=(buildX d f).1)
  {W4:World} (h4:AnQ d A ad cd (if(if st.2=0 then buildX d f else([],st.2)).2=0 then andX d st.1 (notD t2)else(st.1,(if st.2=0 then buildX d f else([],st.2)).2)) W3 W4 v3):AnQ d A ad cd (stpN d st f) W W4 v3:=by
 have es:(if(if st.2=0 then buildX d f else([],st.2)).2=0 then andX d st.1 (notD t2)else(st.1,(if st.2=0 then buildX d f else([],st.2)).2))=stpN d st f:=by{unfold stpN;by_cases h0:st.2=0;{rw[if_pos h0,if_pos h0];by_cases hb:(buildX d f).2=0;{rw[if_pos hb,if_pos hb,ht (by rw[if_pos h0];exact hb)]};{rw[if_neg hb,if_neg hb]}};{rw[if_neg h0,if_neg h0,if_neg h0]}}
 rw[es]at h4;refine⟨h.step.trans (h1.step.trans ((AnStp.of_below hn).trans h4.step)),fun hz=>?_,h4.box,h4.dg,h4.any⟩
 have h0:st.2=0:=by{unfold stpN at hz;(split at hz);{assumption};{exact hz}}
 have hb:(buildX d f).2=0:=by{unfold stpN at hz;rw[if_pos h0]at hz;(split at hz);{assumption};{exact hz}}
 have q1:=h1.same (by rw[if_pos h0];exact hb);exact(h.same h0).trans ((q1.trans ((hn.trans ((h4.same hz).mono hn.size)).mono q1.size)).mono (h.same h0).size)
end
def zF :List Value:=[.int .i64 0,.string ⟨#[]⟩,.int .i64 0,.slice none 0 0,.slice none 0 0]
theorem fnInfo :(Tryz.prog.info? 40).map (fun i=>(i.size,i.zero.map (·.cells),i.bytes))=some (5,some zF.toArray,80):=by kernel_rfl
theorem fn_info :∃i z,Tryz.prog.info? 40=some i/\ i.size=5/\ i.zero=some z/\ z.cells=zF.toArray/\ i.bytes=80:=by
 have h:=fnInfo;cases hi:Tryz.prog.info? 40 with| none=>rw[hi]at h;cases h| some i=>{rw[hi]at h;simp only[Option.map_some,Option.some.injEq,Prod.mk.injEq]at h;obtain⟨h1,h2,h3⟩:=h;obtain⟨z,hz,hz2⟩:=Option.map_eq_some_iff.1 h2;exact⟨i,z,rfl,h1,hz,hz2,h3⟩}
def Tz (j:Nat)(u:Value):Prop:=(∀x,u=.int .i64 x->x=0/\ (j % 5=0\/j % 5=2))/\ ∀b,u≠ .bool b
theorem tz_zero {m j:Nat}{u:Value}(h:(Builtin.zeroCells zF.toArray m)[j]? =some u)(i:Nat)(hi:i % 5=j % 5):Tz i u:=by
 have hlt:=(Array.getElem?_eq_some_iff.1 h).1;rw[size_zeroCells]at hlt;simp only[Builtin.zeroCells]at h;rw[Array.getElem?_map,Array.getElem?_range]at h;rw[if_pos (by simpa using hlt)]at h;simp only[Option.map_some,Option.some.injEq]at h;rw[show zF.toArray.size=5 from rfl]at h;unfold Tz;rw[hi]
 match hj:j % 5,Nat.mod_lt j (show 0<5 by decide)with| 0,_=>rw[hj]at h;subst h;exact⟨fun x e=>(by cases e;exact⟨rfl,.inl rfl⟩),fun b e=>(by cases e)⟩| 1,_=>rw[hj]at h;subst h;exact⟨fun x e=>(by cases e),fun b e=>(by cases e)⟩| 2,_=>rw[hj]at h;subst h;exact⟨fun x e=>(by cases e;exact⟨rfl,.inr rfl⟩),fun b e=>(by cases e)⟩| 3,_=>rw[hj]at h;subst h;exact⟨fun x e=>(by cases e),fun b e=>(by cases e)⟩| 4,_=>rw[hj]at h;subst h;exact⟨fun x e=>(by cases e),fun b e=>(by cases e)⟩
structure FnRow (W : World) (base : Nat) (v : Value) (xs : List FnA) : Prop where
 own:W.ownsRow base 40 5 v xs.length (xs.flatMap FnA.cells)
 tail:∀g,v.ownBlock=some g->∀j u,xs.length*5<=j->W.cell? ⟨g,j,none⟩=some u->Tz j u
theorem FnRow.nil (W:World)(base:Nat):FnRow W base (.slice none 0 0) []:=⟨World.ownsRow_nil _ _ _ _,fun g h=>(by cases h)⟩
theorem FnRow.block {W W':World}{base:Nat}{v:Value}{xs:List FnA}(h:FnRow W base v xs)(hb:∀g,v.ownBlock=some g->W'.heap[g]? =W.heap[g]?):FnRow W' base v xs:=
 ⟨own_block h.own hb,fun g hg j u hj hc=>h.tail g hg j u hj (by rw[<-World.cell?_of_block (a:=⟨g,j,none⟩) (hb g hg)];exact hc)⟩
theorem FnRow.below {W W':World}{base:Nat}{v:Value}{xs:List FnA}(h:FnRow W base v xs)(hb:Below W.heap.size W W'):FnRow W' base v xs:=h.block fun g hg=>hb.block g (h.own.lt g hg).2
theorem flatF_len (xs:List FnA):(xs.flatMap FnA.cells).length=xs.length*5:=by
 induction xs with| nil=>rfl| cons x xs ih=>rw[List.flatMap_cons,List.length_append,ih,List.length_cons];show 5+_=_;omega
theorem flatF_cell {xs:List FnA}{j:Nat}{u:Value}(h:(xs.flatMap FnA.cells)[j]? =some u):(∀b,u≠ .bool b)/\ (j % 5=4->∀x,u≠ .int .i64 x):=by
 have hlt:=(List.getElem?_eq_some_iff.1 h).1;rw[flatF_len]at hlt;have e:j=j / 5*5+j % 5:=by omega
 rw[e,flatF_get xs (j / 5) (j % 5) (by omega) (Nat.mod_lt _ (by decide))]at h
 match hj:j % 5,Nat.mod_lt j (show 0<5 by decide)with| 0,_=>rw[hj]at h;cases h;exact⟨fun b e=>(by cases e),fun e=>(by cases e)⟩| 1,_=>rw[hj]at h;cases h;exact⟨fun b e=>(by cases e),fun e=>(by cases e)⟩| 2,_=>rw[hj]at h;cases h;exact⟨fun b e=>(by cases e),fun e=>(by cases e)⟩| 3,_=>rw[hj]at h;cases h;exact⟨fun b e=>(by cases e),fun e=>(by cases e)⟩| 4,_=>rw[hj]at h;cases h;exact⟨fun b e=>(by cases e),fun _ x e=>(by cases e)⟩
theorem FnRow.cell {W:World}{base g:Nat}{v:Value}{xs:List FnA}(h:FnRow W base v xs)(hg:v.ownBlock=some g){j:Nat}(hj:j<xs.length*5):W.cell? ⟨g,j,none⟩=(xs.flatMap FnA.cells)[j]? :=by
 rcases h.own.2 with⟨rfl,_⟩ | ⟨g',cap,cur,rfl,_,hb,h1,h2,h3,h4⟩
 {cases hg}
 {(cases hg);rw[<-h4,List.getElem?_take_of_lt hj,Array.getElem?_toList];simp[World.cell?,hb]}
theorem run_append_fn (w:World)(base:Nat)(ty:TypeId)(v:Value)(xs:List FnA)(h:FnRow w base v xs)(x:FnA)(ad:Addr)(c:Nat)(hn:∀j u,x.cells[j]? =some u->w.cell? (ad.add j)=some u)(h63:xs.length+1<=1000000)(hbase:base<=w.heap.size):
    ∃v' w',(Builtin.append_ #[33,33] ty #[v,.slice (some ad) 1 c]).run Tryz.prog w=.ok v' w'/\ FnRow w' base v' (xs++[x])/\ w.grownBy w' v.ownBlock/\ (v'.ownBlock=v.ownBlock\/(v'.ownBlock=some w.heap.size/\ w.grownBy w' none)):=by
  obtain⟨i,z,hi,hs,hz,hzc,hb⟩:=fn_info;have hm:(1000064:Nat)<=maxLen:=by unfold maxLen;omega
  obtain⟨v',w',hr,h2,h3,h4,h5⟩:=run_append_own_at (P:=Tryz.prog) w base 33 ty 40 i z 5 80 Tryz.underlying33 hi hz hs hb (by rw[hzc];rfl) (by decide) v xs.length _ h.own ad 1 c x.cells rfl hn x.ones (by omega) (by omega) hbase
  have h2':w'.ownsRow base 40 5 v' (xs++[x]).length ((xs++[x]).flatMap FnA.cells):=by{rw[List.length_append,List.flatMap_append,List.flatMap_cons,List.flatMap_nil,List.append_nil];exact h2}
  have hfl:=flatF_len xs;refine⟨v',w',hr,⟨h2',fun g hg j u hj hc=>?_⟩,h3,?_⟩
  all_goals
    rcases h.own.2 with⟨rfl,h0⟩ | ⟨g0,cap,cur,rfl,hg0,hb0,k1,k2,k3,k4⟩
    . have hr2:=run_append_nil (P:=Tryz.prog) w 33 ty 40 i z Tryz.underlying33 hi hz ad 1 c x.cells (by rw[hs];rfl) hn (by decide) (by decide) (by omega)
      rw[hr]at hr2;obtain⟨rfl,rfl⟩:v'=_/\ w'=_:=by injection hr2 with a b;exact⟨a,b⟩
      first
        | exact .inr ⟨rfl,⟨rfl,rfl,rfl,by simp,fun k hk _=>heap_alloc_old w.drew _ hk⟩⟩
        | (cases hg
           have hj5:5<=j:=by rw[List.length_append]at hj;simp at hj;omega
           have hc2:=((Blk.new w.drew _ _).cell j).symm.trans hc
           rw[Array.getElem?_append_right (by show 5<=j;exact hj5),hzc]at hc2
           exact tz_zero hc2 j (by show j % 5=(j-5) % 5;omega))
    . by_cases hroom:xs.length+1<=cap
      . have hr2:=run_append_room (P:=Tryz.prog) w 33 ty 40 i Tryz.underlying33 hi g0 xs.length cap cur hb0 ad 1 c x.cells (by rw[hs];rfl) hn x.ones hroom (by rw[hs,k3];show xs.length*5+5<=_;omega)
        rw[hr]at hr2;obtain⟨rfl,rfl⟩:v'=_/\ w'=_:=by injection hr2 with a b;exact⟨a,b⟩
        first
          | exact .inl rfl
          | (cases hg
             have hj5:xs.length*5+5<=j:=by rw[List.length_append]at hj;simp at hj;omega
             have hc2:=(Blk.cell (setRow_heap w g0 cur (cur.toList.take (xs.length*i.size)++x.cells++cur.toList.drop (xs.length*i.size+x.cells.length)).toArray 40 (0,0) hb0) j).symm.trans hc
             have htl:(cur.toList.take (xs.length*i.size)).length=xs.length*5:=by rw[List.length_take,hs,show cur.toList.length=cap*5 from k3];omega
             rw[List.getElem?_toArray,List.getElem?_append_right (by rw[List.length_append,htl];exact hj5),List.length_append,htl,hs,List.getElem?_drop,show xs.length*5+x.cells.length=xs.length*5+5 from rfl,Nat.add_sub_cancel' hj5]at hc2
             exact h.tail g0 rfl j u (by omega) (by rw[show w.cell? ⟨g0,j,none⟩=_ from Blk.cell hb0 j, <-Array.getElem?_toList];exact hc2))
      . have hfit:Builtin.nextslicecap (xs.length+1) cap*i.bytes<=281474976710656:=growslice_fits (by omega) (by rw[hb];omega)
        have hr2:=run_append_grow (P:=Tryz.prog) w 33 ty 40 i z Tryz.underlying33 hi hz ⟨g0,0,none⟩ xs.length cap (xs.flatMap FnA.cells) (by rw[hs];exact hfl) (fun j u hj=>by
          have hlt:=(List.getElem?_eq_some_iff.1 hj).1
          rw[Addr.add_mid,Nat.zero_add,h.cell rfl (by omega)];exact hj) ad 1 c x.cells (by rw[hs];rfl) hn (by omega) (by omega) hfit
        rw[hr]at hr2;obtain⟨rfl,rfl⟩:v'=_/\ w'=_:=by injection hr2 with a b;exact⟨a,b⟩
        first
          | exact .inr ⟨rfl,⟨rfl,rfl,rfl,by simp,fun k hk _=>heap_alloc_old w.drew _ hk⟩⟩
          | (cases hg
             have hj5:xs.length*5+5<=j:=by rw[List.length_append]at hj;simp at hj;omega
             have hc2:=((Blk.new w.drew _ _).cell j).symm.trans hc
             have hsz:((xs.flatMap FnA.cells).toArray++x.cells.toArray).size=xs.length*5+5:=by rw[Array.size_append,List.size_toArray,List.size_toArray,hfl];rfl
             rw[Array.getElem?_append_right (by rw[hsz];exact hj5),hzc,hsz]at hc2
             exact tz_zero hc2 j (by omega))
structure FnStep (W W' : World) (base : Nat) (v v' : Value) (xs : List FnA) (x : FnA) : Prop where
 pre:FnRow W base v xs
 post:FnRow W' base v' (xs++[x])
 grown:W.grownBy W' v.ownBlock
 at_:v'.ownBlock=v.ownBlock\/(v'.ownBlock=some W.heap.size/\ W.grownBy W' none)
section
variable {W W' : World} {base : Nat} {v v' : Value} {xs : List FnA} {x : FnA}
theorem FnStep.ints (h:FnStep W W' base v v' xs x){l:List Int}{u:Value}(hi:IntsIn W W.heap.size l u)(hl:l.length≠1\/∀y∈l,y≠0):IntsIn W' W'.heap.size l u:=by
 obtain⟨ao,cap,rfl,h1,h2,h3⟩:=hi;refine⟨ao,cap,rfl,h1,h2,fun hne=>?_⟩;obtain⟨b,off,rfl,hlt,hc⟩:=h3 hne;refine⟨b,off,rfl,Nat.lt_of_lt_of_le hlt h.grown.size,fun i hi=>?_⟩;have hci:W.cell? ⟨b,off+i*1,none⟩=some (.int .i64 l[i]):=hc i hi
 show W'.cell? ⟨b,off+i*1,none⟩=some (.int .i64 l[i])
 rcases h.at_ with ha | ⟨_,hg⟩
 {by_cases hb:some b=v.ownBlock;{have hb':v'.ownBlock=some b:=ha.trans hb.symm;by_cases hj:off+i*1<xs.length*5;{rw[h.post.cell hb' (by rw[List.length_append];omega),List.flatMap_append,List.getElem?_append_left (by rw[flatF_len];exact hj), <-h.pre.cell hb.symm hj];exact hci};{exfalso;obtain⟨t1,_⟩:=h.pre.tail b hb.symm _ _ (by omega) hci;obtain⟨t2,t3⟩:=t1 _ rfl;by_cases h1l:l.length=1;{(rcases hl with hl | hl);{exact hl h1l};{exact hl _ (List.getElem_mem hi) t2}};{by_cases hn:i+1<l.length;{have:=((h.pre.tail b hb.symm _ _ (by omega) (hc (i+1) hn)).1 _ rfl).2;omega};{(have hp:i-1<l.length:=by omega);have hcp:W.cell? ⟨b,off+(i-1)*1,none⟩=some (.int .i64 l[i-1]):=hc (i-1) hp;by_cases hj2:off+(i-1)*1<xs.length*5;{rw[h.pre.cell hb.symm hj2]at hcp;exact(flatF_cell hcp).2 (by omega) _ rfl};{have:=((h.pre.tail b hb.symm _ _ (by omega) hcp).1 _ rfl).2;omega}}}}};{exact(h.grown.cell_far ⟨b,_,none⟩ hlt hb).trans hci}}
 {exact(hg.cell_far ⟨b,_,none⟩ hlt (by simp)).trans hci}
theorem FnStep.dg (h:FnStep W W' base v v' xs x){g:List Dn}{u:Value}(hd:DgIn W W.heap.size g u)(hg:∀n∈g,(∀y∈n.cuts,y≠0)/\ n.kids.length≠1):DgIn W' W'.heap.size g u:=by
 obtain⟨_,rfl,ao,cap,rfl,h1,h2,h3⟩:=hd;refine⟨_,rfl,ao,cap,rfl,h1,h2,fun hne=>?_⟩;obtain⟨b,off,rfl,hlt,hc⟩:=h3 hne;refine⟨b,off,rfl,Nat.lt_of_lt_of_le hlt h.grown.size,fun i hi=>?_⟩;obtain⟨vc,vk,c0,c1,c2,c3,k1,k2⟩:=hc i hi
 have hb:some b≠v.ownBlock:=fun hb=>by{by_cases hj:off+i*4+3<xs.length*5;{rw[h.pre.cell hb.symm hj]at c3;exact(flatF_cell c3).1 _ rfl};{exact(h.pre.tail b hb.symm _ _ (by omega) c3).2 _ rfl}}
 have k:=fun o=>h.grown.cell_far ⟨b,o,none⟩ hlt hb
 exact⟨vc,vk,(k _).trans c0,(k _).trans c1,(k _).trans c2,(k _).trans c3,h.ints k1 (.inr (hg _ (List.getElem_mem hi)).1),h.ints k2 (.inl (hg _ (List.getElem_mem hi)).2)⟩
end
theorem valid_cuts {d:List Fa}{t:List Dn}(h:ValidG d t):∀n∈t,(∀y∈n.cuts,y≠0)/\ n.kids.length≠1:=fun n hn=>by
 obtain⟨k,hk,rfl⟩:=List.getElem_of_mem hn;have hp:=h.table k hk;rw[getD_dg _ _ _ hk]at hp;by_cases hke:t[k].kids=[]
 {obtain⟨_,e⟩:=hp.leaf hke;exact⟨fun y hy=>(by rw[e]at hy;cases hy),by rw[hke];simp⟩}
 {obtain⟨_,_,hf,hc,hl,hch,_⟩:=hp.inner hke;have:=((dom_ok h.dom).lohi _ hf).1;exact⟨fun y hy=>(by have:=chain_mem _ _ hch y hy;omega),by rw[hl];intro e;exact hc (List.length_eq_zero_iff.1 (by omega))⟩}
theorem hidD_alloc (W:World)(o:Obj):Hid (Below W.heap.size W (W.drew.alloc o)):=((Below.refl _ _).drew).alloc (Nat.le_refl _) o
theorem hidB_alloc {W w:World}(h:Hid (Below W.heap.size W w))(o:Obj):Hid (Below W.heap.size W (w.alloc o)):=h.out.alloc h.out.size o
theorem andX_len (d:List Fa)(a b:List Dn):(andX d a b).1.length<=1000000:=by
 by_cases h:(andX d a b).2=0
 {exact valid_len (andX_ok h).2.2.1}
 ·unfold andX at h⊢
  split
  ·next hv=>
   rw[if_pos hv]at h
   split
   {exact Nat.zero_le _}
   {next h2=>rw[if_neg h2]at h;exact absurd rfl h}
  {exact Nat.zero_le _}
theorem buildX_len (d:List Fa)(f:Fo):(buildX d f).1.length<=1000000:=by
 by_cases h:(buildX d f).2=0
 {exact valid_len (buildX_ok h).1}
 ·unfold buildX at h⊢
  split
  {exact Nat.zero_le _}
  ·next h1=>
   rw[if_neg h1]at h
   split
   {exact Nat.zero_le _}
   ·next h2=>
    rw[if_neg h2]at h
    split
    {exact Nat.zero_le _}
    {next h3=>rw[if_neg h3]at h;exact absurd rfl h}
theorem AnQ.var {d:List Fa}{A:Nat}{ad:Option Addr}{cd:Nat}{st:List Dn×Int}{W W':World}{v:Value}(h:AnQ d A ad cd st W W' v){b:Nat}{a:Option Addr}{n c:Nat}(hb:Blk W' b 75 #[.slice a n c])(hW:W.heap.size<=b)(hne:b≠A)(u:Value):AnQ d A ad cd st W (W'.setCell ⟨b,0,none⟩ u) v:=by
 refine⟨⟨h.step.os,h.step.tape,h.step.output,by rw[World.size_setCell];exact h.step.size,fun k hk hk'=>(heap_setCell_other W' ⟨b,0,none⟩ k u (by show k≠b;omega)).trans (h.step.old k hk hk')⟩,fun hz=>(h.same hz).setCell (p:=⟨b,0,none⟩) hW u,blk_else h.box hne.symm 0 u,fun hz=>?_,?_⟩
 {rw[World.size_setCell];exact(h.dg hz).set hb u}
 {obtain⟨g,h1,h2⟩:=h.any;exact⟨g,h1,by rw[World.size_setCell];exact h2.set hb u⟩}
theorem AnQ.done {d:List Fa}{A X R:Nat}{ad a:Option Addr}{cd c:Nat}{T:List Dn}{e:Int}{w w1:World}(hA:AnB w A ad d.length cd 0)(hb:Below w.heap.size w w1)(hv:DgV w1 X T a c)(hl:T.length<=1000000)(hR:Blk w1 R 75 #[.slice none 0 0])(hRw:w.heap.size<=R)(u:Value):
  AnQ d A ad cd (T,e) w ((w1.setCell ⟨A,1,none⟩ (.int .i64 e)).setCell ⟨R,0,none⟩ u) (.agg #[.slice a T.length c]):=by
 have hAw:=hA.lt;exact(AnQ.put hA hb hv.dg hl).var (blk_else hR (by omega) 1 _) hRw (by omega) u
theorem anBuild_any {d:List Fa}{f:Fo}{fv:Value}{w:World}{A:Nat}{ad:Option Addr}{cd:Nat}{e:Int}(hA:AnB w A ad d.length cd e)(hd:DomIn w w.heap.size d (.agg #[.slice ad d.length cd]))(hf:f.In w w.heap.size fv)(hs:f.size<=1000000)(hT:TabH w.heap.size w):
  Calls Tryz.prog 68 #[.pointer (some ⟨A,0,none⟩),fv] w fun r w'=>∃(a:Option Addr) (n c:Nat),r=.returned (.agg #[.slice a n c])/\ AnQ d A ad cd (if e=0 then buildX d f else([],e)) w w' (.agg #[.slice a n c]):=by
 obtain⟨ak,ck,rfl⟩:=hf.shape;have hb2:Below w.heap.size w ((w.alloc (.cells #[.int .i64 f.op,.string f.name,.int .i64 f.cmp,.int .i64 f.n,.slice ak f.kids.length ck] 47)).alloc (.cells #[.slice none 0 0] 75)):=((Below.refl _ _).alloc (Nat.le_refl _) _).alloc (by simp) _;have K0:Blk ((w.alloc (.cells #[.int .i64 f.op,.string f.name,.int .i64 f.cmp,.int .i64 f.n,.slice ak f.kids.length ck] 47)).alloc (.cells #[.slice none 0 0] 75)) w.heap.size 47 #[.int .i64 f.op,.string f.name,.int .i64 f.cmp,.int .i64 f.n,.slice ak f.kids.length ck]:=(Blk.new w 47 #[.int .i64 f.op,.string f.name,.int .i64 f.cmp,.int .i64 f.n,.slice ak f.kids.length ck]).alloc _
 have K1:Blk ((w.alloc (.cells #[.int .i64 f.op,.string f.name,.int .i64 f.cmp,.int .i64 f.n,.slice ak f.kids.length ck] 47)).alloc (.cells #[.slice none 0 0] 75)) (w.heap.size+1) 75 #[.slice none 0 0]:=by{have q:=Blk.new (w.alloc (.cells #[.int .i64 f.op,.string f.name,.int .i64 f.cmp,.int .i64 f.n,.slice ak f.kids.length ck] 47)) 75 #[.slice none 0 0];simpa only[World.size_alloc]using q}
 obtain⟨W2,hW2⟩:∃W2,((w.alloc (.cells #[.int .i64 f.op,.string f.name,.int .i64 f.cmp,.int .i64 f.n,.slice ak f.kids.length ck] 47)).alloc (.cells #[.slice none 0 0] 75))=W2:=⟨_,rfl⟩;rw[hW2]at hb2 K0 K1;have HW2:=Lib.hid hW2;have HA:=Lib.hid hA;have HB2:=Lib.hid hb2;have HK0:=Lib.hid K0;have HK1:=Lib.hid K1;have x1:=(hA.below hb2).cell 1;have r0:=K1.cell 0;have rf:=K1.frozen 0;by_cases he:e=0
 ·subst he
  rw[if_pos rfl];have HLN:=Lib.hid (buildX_len d f)
  have HBD:Hid (∀w',Hid (Below W2.heap.size W2 w')->Calls Tryz.prog 103 #[.agg #[.int .i64 f.op,.string f.name,.int .i64 f.cmp,.int .i64 f.n,.slice ak f.kids.length ck],.agg #[.slice ad d.length cd]] w' fun e w''=>
    ∃(a:Option Addr) (k:Nat),e=.returned (.tuple #[.agg #[.slice a (buildX d f).1.length k],.int .i64 (buildX d f).2])/\ Hid (DgIn w'' w''.heap.size (buildX d f).1 (.agg #[.slice a (buildX d f).1.length k]))/\ Hid (Below w'.heap.size w' w'')/\ Hid (Below W2.heap.size W2 w'')):=by
   intro w' hb;have hbw:Below w.heap.size w w':=hb2.trans (hb.out.mono hb2.size);refine(buildX_any f d _ _ w' w'.heap.size hs (Nat.le_refl _) (Fo.In.mono hbw.size _ _ (Fo.In.below hbw _ _ hf)) ((hd.below hbw).mono hbw.size) (fun w'' h=>hT w'' (hbw.trans (h.mono hbw.size)))).mono ?_;rintro e w'' ⟨g,rfl,⟨u,rfl,h1⟩,h2⟩;obtain⟨a,k,rfl,_⟩:=SlIn.shape h1;exact⟨a,k,rfl,⟨_,rfl,h1⟩,h2,hb.out.trans (h2.mono hb.out.size)⟩
  have HKP:Hid (∀w',Below W2.heap.size W2 w'->w'.cell? ⟨w.heap.size,0,none⟩=some (.int .i64 f.op)/\ w'.cell? ⟨w.heap.size,1,none⟩=some (.string f.name)/\ w'.cell? ⟨w.heap.size,2,none⟩=some (.int .i64 f.cmp)/\ w'.cell? ⟨w.heap.size,3,none⟩=some (.int .i64 f.n)/\ w'.cell? ⟨w.heap.size,4,none⟩=some (.slice ak f.kids.length ck)/\ w'.cell? ⟨A,0,none⟩=some (.slice ad d.length cd)):=fun w' hb=>by{have k:=HK0.out.below hb;exact⟨k.cell 0,k.cell 1,k.cell 2,k.cell 3,k.cell 4,((HA.out.below HB2.out).below hb).cell 0⟩}
  generalize buildX d f=RR at*
  obtain⟨T,e'⟩:=RR;clear hW2 hb2 K0 K1 hA hd hf hs hT;go_enter Tryz.func68,Tryz.ntmps68;go_upto_region 1 with(fail);rw[HW2.out];go_upto_region 3 with(fail)
  go_cut[5,6] (fun s5 s6 wx=>∃(X:Nat) (a:Option Addr) (k:Nat),s5=.pointer (some ⟨X,0,none⟩)/\ s6=.int .i64 e'/\ Hid (DgV wx X T a k)/\ Hid (Below W2.heap.size W2 wx)/\ Hid (W2.heap.size<=X))
  case first=>(refine wp_region_held_drew (S:=(fun w':World=>Hid (Below W2.heap.size W2 w'))) (by kernel_rfl) (Lib.hid ((Below.refl W2.heap.size W2).drew)) (fun hHeld=>?_);refine tk 0 ?v0 ?y0 ?_;(case y0=>(intro w9 hSw;obtain⟨y0,y1,y2,y3,y4,y5⟩:=HKP.out w9 hSw.out;go_simp;try with_reducible rfl));refine tp 1 ?_;refine tk 2 ?v2 ?y2 ?_;(case y2=>(intro w9 hSw;obtain⟨y0,y1,y2,y3,y4,y5⟩:=HKP.out w9 hSw.out;go_simp;try with_reducible rfl));refine tp 3 ?_;refine tk 4 ?v4 ?y4 ?_;(case y4=>(intro w9 hSw;obtain⟨y0,y1,y2,y3,y4,y5⟩:=HKP.out w9 hSw.out;go_simp;try with_reducible rfl));refine tt 5 9 (fun K hK=>?_) (fun K hK=>?_);{skip;(go_simp;go_at_call 103;refine(HBD.out _ (by first | assumption | exact Lib.hid ((Below.refl _ _).drew) | exact hidD_alloc _ _ | exact hidB_alloc (by assumption) _)).mono ?_;rintro e w8 ⟨a8,k8,rfl,HD8,HB8,HC8⟩;first | (have HA8:Hid (Blk w8 W2.heap.size _ _):=hd_newd HB8.out;have HL8:Hid (W2.heap.size<=W2.heap.size):=Nat.le_refl _) | (have HA8:Hid (Blk w8 W2.drew.heap.size _ _):=hd_new HB8.out;have HL8:Hid (W2.heap.size<=W2.drew.heap.size):=(Below.refl W2.heap.size W2).drew.size) | have FLAG:(0:Nat)=0:=rfl);refine hK.out _ _ ?_ (fun hHeld=>?_);{exact HC8};clear hK K;refine tp 6 ?_;refine tp 7 ?_;refine tp 8 ?_;refine tr 9 (fun K hK=>?_);go_simp;refine hK.out _ _ ?_ (fun hHeld=>?_);{first | exact hidB_alloc HC8 _ | exact(by first | assumption | exact Lib.hid ((Below.refl _ _).drew) | exact hidD_alloc _ _ | exact hidB_alloc (by assumption) _)};clear hK K;(try simp only[Act.put,sA,sB,sC]);refine tr 10 (fun K hK=>?_);(first | (have zz:(0:Nat)=0:=FLAG;clear zz;go_simp) | (have cz:=HA8.out.cell 0;have fz:=HA8.out.frozen 0;go_simp));refine hK.out _ _ ?_ (fun hHeld=>?_);{first | exact hd_set HC8 HL8 | exact hidB_alloc HC8 _};clear hK K;(try simp only[Act.put,sA,sB,sC]);refine tp 11 ?_;refine wpAnyH_done (by kernel_rfl) ?_ _;(go_wp2;go_meet;first | exact⟨_,_,_,rfl,rfl,dgv_set HA8 HD8,hd_set HC8 HL8,HL8⟩ | exact⟨_,_,_,rfl,rfl,dgv_new HD8,hidB_alloc HC8 _,Lib.hid HC8.out.size⟩)};{skip;go_simp;refine hK.out _ _ ?_ (fun hHeld=>?_);{first | exact hidB_alloc HC8 _ | exact(by first | assumption | exact Lib.hid ((Below.refl _ _).drew) | exact hidD_alloc _ _ | exact hidB_alloc (by assumption) _)};clear hK K;(try simp only[Act.put,sA,sB,sC]);refine tr 5 (fun K hK=>?_);(go_simp;go_at_call 103;refine(HBD.out _ (by first | assumption | exact Lib.hid ((Below.refl _ _).drew) | exact hidD_alloc _ _ | exact hidB_alloc (by assumption) _)).mono ?_;rintro e w8 ⟨a8,k8,rfl,HD8,HB8,HC8⟩;first | (have HA8:Hid (Blk w8 W2.heap.size _ _):=hd_newd HB8.out;have HL8:Hid (W2.heap.size<=W2.heap.size):=Nat.le_refl _) | (have HA8:Hid (Blk w8 W2.drew.heap.size _ _):=hd_new HB8.out;have HL8:Hid (W2.heap.size<=W2.drew.heap.size):=(Below.refl W2.heap.size W2).drew.size) | have FLAG:(0:Nat)=0:=rfl);refine hK.out _ _ ?_ (fun hHeld=>?_);{exact HC8};clear hK K;refine tp 6 ?_;refine tp 7 ?_;refine tp 8 ?_;refine tr 10 (fun K hK=>?_);(first | (have zz:(0:Nat)=0:=FLAG;clear zz;go_simp) | (have cz:=HA8.out.cell 0;have fz:=HA8.out.frozen 0;go_simp));refine hK.out _ _ ?_ (fun hHeld=>?_);{first | exact hd_set HC8 HL8 | exact hidB_alloc HC8 _};clear hK K;(try simp only[Act.put,sA,sB,sC]);refine tp 11 ?_;refine wpAnyH_done (by kernel_rfl) ?_ _;(go_wp2;go_meet;first | exact⟨_,_,_,rfl,rfl,dgv_set HA8 HD8,hd_set HC8 HL8,HL8⟩ | exact⟨_,_,_,rfl,rfl,dgv_new HD8,hidB_alloc HC8 _,Lib.hid HC8.out.size⟩)})
  case rest=>(obtain⟨X,a,k,rfl,rfl,HV,HB,HX⟩:=hcut;(rename World=>wx);(have hAx:=(HA.out.below HB2.out).below HB.out;have hAl:=HA.out.lt;have hsz:=HB2.out.size;have hXs:=HX.out;have y1:=hAx.cell 1;have yf:=hAx.frozen 1;go_upto_region 5 with(fail);have KX:=blk_else HV.out.box (by omega:X≠A) 1 (.int .i64 e');have KR:=blk_else (HK1.out.below HB.out) (by omega:w.heap.size+1≠A) 1 (.int .i64 e');have q0:=KX.cell 0;have q1:=KR.cell 0;have q2:=KR.frozen 0;have HQ:=Lib.hid (AnQ.done (e:=e') HA.out (HB2.out.trans (HB.out.mono HB2.out.size)) HV.out HLN.out (HK1.out.below HB.out) (by omega) (.slice a T.length k));clear x1 r0 rf y1 yf;generalize World.setCell wx ⟨A,1,none⟩ (.int .i64 e')=WZ at*;go_wp2;have hcs:=(blk_one KR (.slice a T.length k)).cell 0;refine bodyPost_ret (by simp[results,Tryz.results68,go_sem,hcs];try rfl) rfl ?_;exact⟨a,T.length,k,rfl,HQ.out⟩))
 {(have k1:(e !=0)=true:=by simpa using he);rw[if_neg he];have HE:=Lib.hid he;clear he hW2 hb2 K0 K1 hd hf hs hT;go_enter Tryz.func68,Tryz.ntmps68;go_upto_region 1 with(fail);rw[HW2.out];go_wp2;refine bodyPost_ret (by simp[results,Tryz.results68,go_sem,r0];try rfl) rfl ?_;exact⟨none,0,0,rfl,AnQ.idle HA.out HE.out (by first | exact HB2.out | exact HB2.out.setCell (p:=⟨w.heap.size+1,0,none⟩) (Nat.le_succ _) _) ⟨[],by simp,DgIn.nil _ _⟩⟩}
theorem anAnd_any {d:List Fa}{tx ty:List Dn}{xv yv:Value}{w:World}{A:Nat}{ad:Option Addr}{cd:Nat}{e:Int}(hA:AnB w A ad d.length cd e)(hd:DomIn w w.heap.size d (.agg #[.slice ad d.length cd]))(hx:e=0->DgIn w w.heap.size tx xv/\ DgIn w w.heap.size ty yv/\ (∀n∈tx,Dn64 n)/\ ∀n∈ty,Dn64 n)(ax:DgAny w xv)(ay:DgAny w yv)(hT:TabH w.heap.size w):
  Calls Tryz.prog 42 #[.pointer (some ⟨A,0,none⟩),xv,yv] w fun r w'=>∃(a:Option Addr) (n c:Nat),r=.returned (.agg #[.slice a n c])/\ AnQ d A ad cd (if e=0 then andX d tx ty else(tx,e)) w w' (.agg #[.slice a n c]):=by
 have HAX:=Lib.hid ax;obtain⟨gx,_,_,rfl,hx1⟩:=ax;obtain⟨xa,xc,rfl,_⟩:=SlIn.shape hx1;obtain⟨gy,_,_,rfl,hy1⟩:=ay;obtain⟨ya,yc,rfl,_⟩:=SlIn.shape hy1;clear hx1 hy1;generalize gx.length=xn at*
 generalize gy.length=yn at*
 have hb2:Below w.heap.size w (((w.alloc (.cells #[.slice xa xn xc] 75)).alloc (.cells #[.slice ya yn yc] 75)).alloc (.cells #[.slice none 0 0] 75)):=(((Below.refl _ _).alloc (Nat.le_refl _) _).alloc (by simp) _).alloc (by simp;omega) _;have K0:Blk (((w.alloc (.cells #[.slice xa xn xc] 75)).alloc (.cells #[.slice ya yn yc] 75)).alloc (.cells #[.slice none 0 0] 75)) w.heap.size 75 #[.slice xa xn xc]:=((Blk.new w 75 #[.slice xa xn xc]).alloc _).alloc _
 have K1:Blk (((w.alloc (.cells #[.slice xa xn xc] 75)).alloc (.cells #[.slice ya yn yc] 75)).alloc (.cells #[.slice none 0 0] 75)) (w.heap.size+1) 75 #[.slice ya yn yc]:=by{have q:=(Blk.new (w.alloc (.cells #[.slice xa xn xc] 75)) 75 #[.slice ya yn yc]).alloc (.cells #[.slice none 0 0] 75);simpa only[World.size_alloc]using q}
 have K2:Blk (((w.alloc (.cells #[.slice xa xn xc] 75)).alloc (.cells #[.slice ya yn yc] 75)).alloc (.cells #[.slice none 0 0] 75)) (w.heap.size+1+1) 75 #[.slice none 0 0]:=by{have q:=Blk.new ((w.alloc (.cells #[.slice xa xn xc] 75)).alloc (.cells #[.slice ya yn yc] 75)) 75 #[.slice none 0 0];simpa only[World.size_alloc]using q}
 obtain⟨W2,hW2⟩:∃W2,(((w.alloc (.cells #[.slice xa xn xc] 75)).alloc (.cells #[.slice ya yn yc] 75)).alloc (.cells #[.slice none 0 0] 75))=W2:=⟨_,rfl⟩;rw[hW2]at hb2 K0 K1 K2;have HW2:=Lib.hid hW2;have HA:=Lib.hid hA;have HB2:=Lib.hid hb2;have HK0:=Lib.hid K0;have HKY:=Lib.hid K1;have HK1:=Lib.hid K2;have x1:=(hA.below hb2).cell 1;have r0:=K2.cell 0;have rf:=K2.frozen 0;have z0:=K0.cell 0;by_cases he:e=0
 ·subst he
  rw[if_pos rfl];obtain⟨h1,h2,h3,h4⟩:=hx rfl;have HLN:=Lib.hid (andX_len d tx ty)
  have HBD:Hid (∀w',Hid (Below W2.heap.size W2 w')->Calls Tryz.prog 69 #[.agg #[.slice xa xn xc],.agg #[.slice ya yn yc],.agg #[.slice ad d.length cd]] w' fun e w''=>
    ∃(a:Option Addr) (k:Nat),e=.returned (.tuple #[.agg #[.slice a (andX d tx ty).1.length k],.int .i64 (andX d tx ty).2])/\ Hid (DgIn w'' w''.heap.size (andX d tx ty).1 (.agg #[.slice a (andX d tx ty).1.length k]))/\ Hid (Below w'.heap.size w' w'')/\ Hid (Below W2.heap.size W2 w'')):=by
   intro w' hb;have hbw:Below w.heap.size w w':=hb2.trans (hb.out.mono hb2.size);refine(andX_any ((h1.below hbw).mono hbw.size) ((h2.below hbw).mono hbw.size) ((hd.below hbw).mono hbw.size) (fun w'' h=>hT w'' (hbw.trans (h.mono hbw.size))) h3 h4).mono ?_;rintro e w'' ⟨a,k,rfl,q1,q2⟩;exact⟨a,k,rfl,q1,q2,hb.out.trans (q2.mono hb.out.size)⟩
  have HKP:Hid (∀w',Below W2.heap.size W2 w'->w'.cell? ⟨w.heap.size,0,none⟩=some (.slice xa xn xc)/\ w'.cell? ⟨w.heap.size+1,0,none⟩=some (.slice ya yn yc)/\ w'.cell? ⟨A,0,none⟩=some (.slice ad d.length cd)):=fun w' hb=>⟨(HK0.out.below hb).cell 0,(HKY.out.below hb).cell 0,((HA.out.below HB2.out).below hb).cell 0⟩
  generalize andX d tx ty=RR at*
  obtain⟨T,e'⟩:=RR;clear hW2 hb2 K0 K1 K2 hA hd hT h1 h2 h3 h4 hx z0;go_enter Tryz.func42,Tryz.ntmps42;go_upto_region 1 with(fail);rw[HW2.out];go_upto_region 3 with(fail)
  go_cut[7,8] (fun s5 s6 wx=>∃(X:Nat) (a:Option Addr) (k:Nat),s5=.pointer (some ⟨X,0,none⟩)/\ s6=.int .i64 e'/\ Hid (DgV wx X T a k)/\ Hid (Below W2.heap.size W2 wx)/\ Hid (W2.heap.size<=X))
  case first=>(refine wp_region_held_drew (S:=(fun w':World=>Hid (Below W2.heap.size W2 w'))) (by kernel_rfl) (Lib.hid ((Below.refl W2.heap.size W2).drew)) (fun hHeld=>?_);refine tk 0 ?v0 ?y0 ?_;(case y0=>(intro w9 hSw;obtain⟨y0,y1,y2⟩:=HKP.out w9 hSw.out;go_simp;try with_reducible rfl));refine tk 1 ?v1 ?y1 ?_;(case y1=>(intro w9 hSw;obtain⟨y0,y1,y2⟩:=HKP.out w9 hSw.out;go_simp;try with_reducible rfl));refine tp 2 ?_;refine tk 3 ?v3 ?y3 ?_;(case y3=>(intro w9 hSw;obtain⟨y0,y1,y2⟩:=HKP.out w9 hSw.out;go_simp;try with_reducible rfl));refine tp 4 ?_;refine tk 5 ?v5 ?y5 ?_;(case y5=>(intro w9 hSw;obtain⟨y0,y1,y2⟩:=HKP.out w9 hSw.out;go_simp;try with_reducible rfl));refine tt 6 10 (fun K hK=>?_) (fun K hK=>?_);{skip;(go_simp;go_at_call 69;refine(HBD.out _ (by first | assumption | exact Lib.hid ((Below.refl _ _).drew) | exact hidD_alloc _ _ | exact hidB_alloc (by assumption) _)).mono ?_;rintro e w8 ⟨a8,k8,rfl,HD8,HB8,HC8⟩;first | (have HA8:Hid (Blk w8 W2.heap.size _ _):=hd_newd HB8.out;have HL8:Hid (W2.heap.size<=W2.heap.size):=Nat.le_refl _) | (have HA8:Hid (Blk w8 W2.drew.heap.size _ _):=hd_new HB8.out;have HL8:Hid (W2.heap.size<=W2.drew.heap.size):=(Below.refl W2.heap.size W2).drew.size) | have FLAG:(0:Nat)=0:=rfl);refine hK.out _ _ ?_ (fun hHeld=>?_);{exact HC8};clear hK K;refine tp 7 ?_;refine tp 8 ?_;refine tp 9 ?_;refine tr 10 (fun K hK=>?_);go_simp;refine hK.out _ _ ?_ (fun hHeld=>?_);{first | exact hidB_alloc HC8 _ | exact(by first | assumption | exact Lib.hid ((Below.refl _ _).drew) | exact hidD_alloc _ _ | exact hidB_alloc (by assumption) _)};clear hK K;(try simp only[Act.put,sA,sB,sC]);refine tr 11 (fun K hK=>?_);(first | (have zz:(0:Nat)=0:=FLAG;clear zz;go_simp) | (have cz:=HA8.out.cell 0;have fz:=HA8.out.frozen 0;go_simp));refine hK.out _ _ ?_ (fun hHeld=>?_);{first | exact hd_set HC8 HL8 | exact hidB_alloc HC8 _};clear hK K;(try simp only[Act.put,sA,sB,sC]);refine tp 12 ?_;refine wpAnyH_done (by kernel_rfl) ?_ _;(go_wp2;go_meet;first | exact⟨_,_,_,rfl,rfl,dgv_set HA8 HD8,hd_set HC8 HL8,HL8⟩ | exact⟨_,_,_,rfl,rfl,dgv_new HD8,hidB_alloc HC8 _,Lib.hid HC8.out.size⟩)};{skip;go_simp;refine hK.out _ _ ?_ (fun hHeld=>?_);{first | exact hidB_alloc HC8 _ | exact(by first | assumption | exact Lib.hid ((Below.refl _ _).drew) | exact hidD_alloc _ _ | exact hidB_alloc (by assumption) _)};clear hK K;(try simp only[Act.put,sA,sB,sC]);refine tr 6 (fun K hK=>?_);(go_simp;go_at_call 69;refine(HBD.out _ (by first | assumption | exact Lib.hid ((Below.refl _ _).drew) | exact hidD_alloc _ _ | exact hidB_alloc (by assumption) _)).mono ?_;rintro e w8 ⟨a8,k8,rfl,HD8,HB8,HC8⟩;first | (have HA8:Hid (Blk w8 W2.heap.size _ _):=hd_newd HB8.out;have HL8:Hid (W2.heap.size<=W2.heap.size):=Nat.le_refl _) | (have HA8:Hid (Blk w8 W2.drew.heap.size _ _):=hd_new HB8.out;have HL8:Hid (W2.heap.size<=W2.drew.heap.size):=(Below.refl W2.heap.size W2).drew.size) | have FLAG:(0:Nat)=0:=rfl);refine hK.out _ _ ?_ (fun hHeld=>?_);{exact HC8};clear hK K;refine tp 7 ?_;refine tp 8 ?_;refine tp 9 ?_;refine tr 11 (fun K hK=>?_);(first | (have zz:(0:Nat)=0:=FLAG;clear zz;go_simp) | (have cz:=HA8.out.cell 0;have fz:=HA8.out.frozen 0;go_simp));refine hK.out _ _ ?_ (fun hHeld=>?_);{first | exact hd_set HC8 HL8 | exact hidB_alloc HC8 _};clear hK K;(try simp only[Act.put,sA,sB,sC]);refine tp 12 ?_;refine wpAnyH_done (by kernel_rfl) ?_ _;(go_wp2;go_meet;first | exact⟨_,_,_,rfl,rfl,dgv_set HA8 HD8,hd_set HC8 HL8,HL8⟩ | exact⟨_,_,_,rfl,rfl,dgv_new HD8,hidB_alloc HC8 _,Lib.hid HC8.out.size⟩)})
  case rest=>(obtain⟨X,a,k,rfl,rfl,HV,HB,HX⟩:=hcut;(rename World=>wx);(have hAx:=(HA.out.below HB2.out).below HB.out;have hAl:=HA.out.lt;have hsz:=HB2.out.size;have hXs:=HX.out;have y1:=hAx.cell 1;have yf:=hAx.frozen 1;go_upto_region 5 with(fail);have KX:=blk_else HV.out.box (by omega:X≠A) 1 (.int .i64 e');have KR:=blk_else (HK1.out.below HB.out) (by omega:w.heap.size+1+1≠A) 1 (.int .i64 e');have q0:=KX.cell 0;have q1:=KR.cell 0;have q2:=KR.frozen 0;have HQ:=Lib.hid (AnQ.done (e:=e') HA.out (HB2.out.trans (HB.out.mono HB2.out.size)) HV.out HLN.out (HK1.out.below HB.out) (by omega) (.slice a T.length k));clear x1 r0 rf y1 yf;generalize World.setCell wx ⟨A,1,none⟩ (.int .i64 e')=WZ at*;go_wp2;have hcs:=(blk_one KR (.slice a T.length k)).cell 0;refine bodyPost_ret (by simp[results,Tryz.results42,go_sem,hcs];try rfl) rfl ?_;exact⟨a,T.length,k,rfl,HQ.out⟩))
 {(have k1:(e !=0)=true:=by simpa using he);rw[if_neg he];have HE:=Lib.hid he;clear he hW2 hb2 K0 K1 K2 hd hT hx;go_enter Tryz.func42,Tryz.ntmps42;go_upto_region 1 with(fail);rw[HW2.out];go_wp2;(have hne:w.heap.size+1+1≠w.heap.size:=by omega);have hcs:=(blk_one HK1.out (.slice xa xn xc)).cell 0;refine bodyPost_ret (by simp[results,Tryz.results42,go_sem,hcs];try rfl) rfl ?_;exact⟨xa,xn,xc,rfl,AnQ.idle HA.out HE.out (HB2.out.setCell (p:=⟨w.heap.size+1+1,0,none⟩) (by show w.heap.size<=w.heap.size+1+1;omega) _) HAX.out⟩}
end Go.Proofs.YtihniipjfdenbaaGreatDoor
