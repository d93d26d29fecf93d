/- The walk of given at And and Or, and of given for every formula without terms. A bound on the formula's size. -/
import Derived.Test.YtdipkbobalnilaaGreatDoorAl
import Derived.Test.YtdipkbobalnilaaGreatDoorDgVC
import Derived.Test.YtdipkbobalnilaaGreatDoorDgGP
set_option maxRecDepth 100000
set_option maxHeartbeats 4000000
namespace Go.Proofs.YtdipkbobalnilaaGreatDoor
open Tryz
open Go.RowKit
variable{Z:Int}{E:TypeId}{K:Act}
abbrev kV(b:Bool):Array Ea:=#[pa (if b then 1 else 2),.string We,pa 0,pa 0,Ua]
theorem lC(b:Bool)(W:Ca):Db 138 #[.bool b] W λe a=>e=.returned (.agg (kV b))/\a=W.alloc (.cells (kV b) 32):=by
 cases b with| true=>{go_enter func138,ntmps138;go_wp2;exact Fb (Ee (v:=.agg #[.int _ 1,.string We,.int _ 0,.int _ 0,Ua]) rfl _ _ _ rfl (by unfold We;go_simp)) rfl ⟨rfl,rfl⟩}| false=>{go_enter func138,ntmps138;go_wp2;exact Fb (Ee (v:=.agg #[.int _ 2,.string We,.int _ 0,.int _ 0,Ua]) rfl _ _ _ rfl (by unfold We;go_simp)) rfl ⟨rfl,rfl⟩}
theorem mC(b:Bool)(W:Ca)(P:Nat->Prop):(Ei b).Fk W P (.agg (kV b)):=by
 cases b<;>exact⟨none,0,rfl,⟨Ba,Ba⟩,⟨Ba,Ba⟩,⟨Ba,Ba⟩,Ba,Lb _,ja,λe=>absurd rfl e⟩
theorem aE(a how b:Int)(h:1<=how/\how<=6)(W:Ca):Db 139 #[pa a,pa how,pa b] W λe c=>e=.returned (.bool (Ol a how b))/\W=c:=by
 have d:how=1\/how=2\/how=3\/how=4\/how=5\/how=6:=by omega
 rcases d with rfl|rfl|rfl|rfl|rfl|rfl
 all_goals
  go_enter func139,ntmps139;go_wp2;go_ret;refine⟨?_,rfl⟩;exact congrArg (λb=>Ending.returned (.bool b)) (by unfold Ol;first|rfl|(rw[Rc];simp)|simp)
theorem pQ:(prog.info? 32).map (λi=>(i.zero,i.size,i.bytes))=some (some (.agg #[pa 0,.string We,pa 0,pa 0,Ua]),5,64):=by kernel_rfl
theorem zm(x:Cs)(w:Ca):(Instr.buildSlice 30 1 #[(0,.agg #[pa x.f.op,.string x.f.name,pa x.f.cmp,pa x.f.n,.slice x.ao x.f.kids.length x.cap])]).run prog w=.ok (.slice (Nb w.heap.size) 1 1) (w.alloc (.cells x.cells.toArray 32)):=by
 obtain⟨i,a,c,b,_⟩:=info_parts pQ;exact Ql x.cells Tryz.underlying30 a b c rfl (by show 0<5;decide) (by show 5<=1000;decide) w
theorem yZ(x:Cs)(w:Ca):∀j u,x.cells[j]? =some u->(w.alloc (.cells x.cells.toArray 32)).cell? ((Ya w.heap.size:Addr).add j)=some u:=by
 intro j u a;have:=(qb.new w 32 x.cells.toArray).cell j
 grind [Addr.add]
theorem tJ{W:Ca}{p:Nat}{c0 c1 c2 c3 c4:Ea}(h:qb W p 32 #[c0,c1,c2,c3,c4])(a b c d e:Ea):
  ∃f,f=((((W.setCell (Ya p) a).setCell (Ja p 1) b).setCell (Ja p 2) c).setCell (Ja p 3) d).setCell (Ja p 4) e/\qb f p 32 #[a,b,c,d,e]/\W.grownBy f (some p):=by
 have o:qb _ p 32 #[a,c1,c2,c3,c4]:=h.set 0 a;have k:=sg W p 0 a;generalize t:W.setCell _ a=g at*
 have q:qb _ p 32 #[a,b,c2,c3,c4]:=o.set 1 b;have l:=k.trans (sg g p 1 b);generalize u:g.setCell _ b=i at*
 have r:qb _ p 32 #[a,b,c,c3,c4]:=q.set 2 c;have m:=l.trans (sg i p 2 c);generalize v:i.setCell _ c=j at*
 have s:qb _ p 32 #[a,b,c,d,c4]:=r.set 3 d;have n:=m.trans (sg j p 3 d);generalize w:j.setCell _ d=x at*
 exact⟨_,rfl,s.set 4 e,n.trans (sg x p 4 e)⟩
theorem UU{w:Ca}{Q:Nat->Prop}{b:Nat}{x:Cs}(a:qb w b 32 x.cells.toArray)(e:x.Ok w Q)(d:Q b)(c:Wh Z):(Fo.mk Z We 0 0 [x.f]).Fk w Q (.agg #[pa Z,.string We,pa 0,pa 0,.slice (Nb b) 1 1]):=
 ⟨_,1,rfl,c,⟨Ba,Ba⟩,⟨Ba,Ba⟩,Ba,wa _,Ba,λ_=>⟨b,0,rfl,d,⟨⟨_,_,_,_,_,a.cell 0,a.cell 1,a.cell 2,a.cell 3,a.cell 4,e⟩,trivial⟩⟩⟩
def Sp(W:Ca)(b:Nat):Prop:=∃a,W.heap[b]? =some (.cells a 32 (0,0))
theorem Sp.lt{W:Ca}{b:Nat}(h:Sp W b):b<W.heap.size:=zf h.choose_spec
theorem Sp.same{W a:Ca}{b:Nat}(h:Sp W b)(e:a.heap[b]? =W.heap[b]?):Sp a b:=⟨_,e.trans h.choose_spec⟩
theorem qQ{W:Ca}{base n:Nat}{v:Ea}{xs:List Ea}(h:W.ownsRow base 32 5 v n xs):∀g,v.ownBlock=some g->base<=g/\Sp W g:=λg e=>by
 rcases h.2 with⟨rfl,_⟩|⟨b,cap,a,rfl,c,d,_⟩
 {cases e}
 {(have:b=g:=by grind [Value.ownBlock]);subst this;exact⟨c,a,d⟩}
def PN(P:Nat->Prop)(W a:Ca)(b:Nat):Prop:=P b\/(W.heap.size<=b/\Sp a b)
abbrev VM(P:Nat->Prop)(c:Na)(x:Int)(f:Fo):Prop:=
 ∀(v:Ea) (W:Ca),(∀b,P b->b<W.heap.size)->f.Fk W P v->
  Db 107 #[v,.string c,pa x] W λe a=>∃u,e=.returned u/\(Sg c x f).Fk a (PN P W a) u/\Da W.heap.size W a
theorem Ds{P:Nat->Prop}{W a:Ca}{B:Nat}(c:∀b,P b->b<B)(d:Da B W a):rQ P W a:=λb h=>d.block b (c b h)
theorem gG(P:Nat->Prop)(d:Na)(x:Int)(g c n:Int)(s:Na)(hop:g=1\/g=2\/g=3)(w:g=3->1<=c/\c<=6):VM P d x (.mk g s c n []):=by
 intro v W D u;obtain⟨m,cap,rfl,F,G,H,A,I,J,_⟩:=u.shape;have C:=la u;have y:∀l,Da _ W l->W.heap.size<=l.heap.size->(Fo.mk g s c n []).Fk l (PN P W l) (.agg #[.int _ g,.string s,.int _ c,.int _ n,.slice m 0 cap]):=λl E _=>Fo.Fk.step (Ds D E) (λb h=>.inl h) _ _ C.o
 have p:=la y;simp only[Fo.op,Fo.name,Fo.cmp,Fo.n,Fo.kids,nd]at*
 clear u y;have a:∀j k,Da _ W ((W.alloc j).alloc k):=λj k=>((za _ _).alloc (wa _) _).alloc Aa _
 rcases hop with rfl|rfl|rfl
 {have f:=la (show Sg d x (.mk 1 s c n [])=.mk 1 s c n [] by rw[Sg];simp);go_enter func107,ntmps107;go_wp2;refine Fb (Ee (v:=.agg #[pa 1,.string s,pa c,pa n,.slice m 0 cap]) rfl _ _ _ rfl (by go_simp)) rfl ⟨_,rfl,?_,a _ _⟩;rw[f.o];exact p.o _ (a _ _) (by simp;omega)}
 {have f:=la (show Sg d x (.mk 2 s c n [])=.mk 2 s c n [] by rw[Sg];simp);go_enter func107,ntmps107;go_wp2;refine Fb (Ee (v:=.agg #[pa 2,.string s,pa c,pa n,.slice m 0 cap]) rfl _ _ _ rfl (by go_simp)) rfl ⟨_,rfl,?_,a _ _⟩;rw[f.o];exact p.o _ (a _ _) (by simp;omega)}
 ·cases i:Lh s d with
  | false=>{have f:=la (show Sg d x (.mk 3 s c n [])=.mk 3 s c n [] by rw[Sg];simp[i]);have t:(s.toList==d.toList)=false:=i;clear i;go_enter func107,ntmps107;go_wp2;refine Fb (Ee (v:=.agg #[pa 3,.string s,pa c,pa n,.slice m 0 cap]) rfl _ _ _ rfl (by go_simp)) rfl ⟨_,rfl,?_,a _ _⟩;rw[f.o];exact p.o _ (a _ _) (by simp;omega)}
  | true=>
   have f:=la (show Sg d x (.mk 3 s c n [])=Ei (Ol x c n) by rw[Sg];simp[i]);have B:=la (λW=>aE x c n (w rfl) W);generalize Ol x c n=r at*
   have t:(s.toList==d.toList)=true:=i;clear w i;have q:∀j k z,Da W.heap.size W (((W.alloc j).alloc k).alloc z):=λj k z=>(a j k).alloc (by simp;omega) _
   cases r
   all_goals
    go_enter func107,ntmps107;go_wp2_with (first|(go_at_call 139;refine(B.o _).mono ?_;rintro e A ⟨rfl,rfl⟩)|(go_at_call 138;refine(lC _ _).mono ?_;rintro e A ⟨rfl,rfl⟩));refine Fb (Ee (v:=.agg (kV _)) rfl _ _ _ rfl (by go_simp;try rfl)) rfl ⟨_,rfl,?_,q _ _ _⟩;rw[f.o];exact mC _ _ _
theorem VU(P:Nat->Prop)(J:Na)(x:Int)(k:Fo)(IH:VM P J x k):VM P J x (.mk 5 We 0 0 [k]):=by
 intro v W N hv;obtain⟨ao,cap,rfl,k1,k2,w1,d,w3,w4,hk⟩:=hv.shape;simp only[Fo.op,Fo.name,Fo.cmp,Fo.n,Fo.kids,Qb,nd]at*
 obtain⟨b,off,rfl,U,hL⟩:=hk Aa;obtain⟨ka,kc,c0,c1,c2,c3,c4,T⟩:=Fo.Co.get [k] off 0 Aa hL;simp at c0 c1 c2 c3 c4 T;have hbW:=N b U
 have O:=la (IH _ ((W.alloc (.cells #[pa 5,.string We,pa 0,pa 0,.slice (fe b off) (0+1) cap] 32)).alloc (.cells #[pa 0,.string We,pa 0,pa 0,Ua] 32)) (λb E=>by have:=N b E;simp;omega)
  (Fo.Fk.step (Ds N (((za _ _).alloc (wa _) _).alloc Aa _)) (λ_ h=>h) _ _ T))
 have Y:Hid (Sg J x (.mk 5 We 0 0 [k])=pv (Sg J x k)):=by{show _=_;rw[Sg];simp[TA]}
 generalize Sg J x k=g at*
 clear hv hk hL T IH;go_enter func107,ntmps107;go_upto_region 7 with(go_at_call 107;refine O.o.mono ?_;rintro e d ⟨u,rfl,X,F⟩;obtain⟨s,t,rfl,u1,u2,u3,u4,u5,u6,_⟩:=X.shape;have HU:=la X;have z:=la F;clear X F);have Q5:W.heap.size+2<=d.heap.size:=by have:=z.o.size;simpa using this
 have G:=(((za _ _).alloc (wa _) _).alloc Aa _).trans (z.o.mono (by simp;omega))
 have y:qb d (W.heap.size+1) 32 #[pa 0,.string We,pa 0,pa 0,Ua]:=by{have q:=(qb.new _ 32 _).below z.o;simpa only[Ia]using q}
 have C:=la G;have w:=la y;clear G y;cases j:Fj g with
 | some r=>
  have L:=la (show pv g=Ei (!r) by unfold pv;rw[j])
  have Q:(g.op==1)=r/\(g.op==2)= !r:=by{unfold Fj at j;by_cases R:g.op=1;{rw[Ga R]at j;cases j;rw[R];exact⟨rfl,rfl⟩};{rw[if_neg R]at j;by_cases S:g.op=2;{rw[Ga S]at j;cases j;rw[S];exact⟨rfl,rfl⟩};{rw[if_neg S]at j;cases j}}}
  obtain⟨e1,e2⟩:=Q;obtain⟨q,H⟩:∃q,q= !r:=⟨_,rfl⟩;rw[<-H]at L e2;have I:r= !q:=by rw[H];simp
  rw[I]at e1;clear H I;clear j;have a:=(w.o.alloc (.cells #[pa g.op,.string g.name,pa g.cmp,pa g.n,.slice s g.kids.length t] 32)).alloc (.cells (kV q) 32);have r0:=a.cell 0;have r1:=a.cell 1;have r2:=a.cell 2;have r3:=a.cell 3;have r4:=a.cell 4;have f0:=a.frozen 0;have f1:=a.frozen 1;have f2:=a.frozen 2;have f3:=a.frozen 3;have f4:=a.frozen 4;have i:Da _ W ((d.alloc (.cells #[pa g.op,.string g.name,pa g.cmp,pa g.n,.slice s g.kids.length t] 32)).alloc (.cells (kV q) 32)):=(C.o.alloc ja _).alloc (by simp;omega) _;obtain⟨K,p,l,f⟩:=tJ a (pa (if q=true then 1 else 2)) (.string We) (pa 0) (pa 0) Ua;have c:=la l;have A:=la (i.grown f (by simp;omega) (λk e=>by cases e;omega));have B:=la p;clear O a i l f p;cases q
  all_goals
   go_wp2_with (go_at_call 138;refine(lC _ _).mono ?_;rintro e d ⟨rfl,rfl⟩);have Z:=B.o;simp at Z;rw[<-Z];have t0:=c.o.cell 0;have t1:=c.o.cell 1;have t2:=c.o.cell 2;have t3:=c.o.cell 3;have t4:=c.o.cell 4;refine Fb (Ee (v:=.agg (kV _)) rfl _ _ _ rfl (by go_simp;try rfl)) rfl ⟨_,rfl,?_,A.o⟩;rw[Y.o,L.o];exact mC _ _ _
 | none=>{obtain⟨n1,n2⟩:=Xu.1 j;have L:=la (show pv g=.mk 5 We 0 0 [g] by unfold pv;rw[j]);(have e1:(g.op==1)=false:=by simpa using n1);(have e2:(g.op==2)=false:=by simpa using n2);have V:=zm ⟨g,s,t⟩;simp only[Cs.cells]at V;have a:=(w.o.alloc (.cells #[pa g.op,.string g.name,pa g.cmp,pa g.n,.slice s g.kids.length t] 32)).alloc (.cells #[pa g.op,.string g.name,pa g.cmp,pa g.n,.slice s g.kids.length t] 32);have r0:=a.cell 0;have r1:=a.cell 1;have r2:=a.cell 2;have r3:=a.cell 3;have r4:=a.cell 4;have f0:=a.frozen 0;have f1:=a.frozen 1;have f2:=a.frozen 2;have f3:=a.frozen 3;have f4:=a.frozen 4;have i:Da d.heap.size d ((d.alloc (.cells #[pa g.op,.string g.name,pa g.cmp,pa g.n,.slice s g.kids.length t] 32)).alloc (.cells #[pa g.op,.string g.name,pa g.cmp,pa g.n,.slice s g.kids.length t] 32)):=((za _ _).alloc ja _).alloc Aa _;obtain⟨K,p,l,f⟩:=tJ a (pa 5) (.string ⟨#[]⟩) (pa 0) (pa 0) (.slice (Nb (d.heap.size+1)) 1 1);have m:qb K (d.heap.size+1) 32 (Cs.mk g s t).cells.toArray:=by{have q:=qb.new (d.alloc (.cells #[pa g.op,.string g.name,pa g.cmp,pa g.n,.slice s g.kids.length t] 32)) 32 #[pa g.op,.string g.name,pa g.cmp,pa g.n,.slice s g.kids.length t];rw[Ia]at q;exact q.grown f (by simp;omega)};have D:Hid ((Fo.mk 5 We 0 0 [g]).Fk K (PN P W K) (.agg #[pa 5,.string We,pa 0,pa 0,.slice (Nb (d.heap.size+1)) 1 1])):=by{(have hsm:rQ (PN P ((W.alloc (.cells #[pa 5,.string We,pa 0,pa 0,.slice (fe b off) (0+1) cap] 32)).alloc (.cells #[pa 0,.string We,pa 0,pa 0,Ua] 32)) d) d K:=λb E=>by{have hlt:b<d.heap.size/\b≠W.heap.size+1:=by{(rcases E with h|⟨h,M⟩);{have:=N b h;exact⟨ja,ja⟩};{simp at h;exact⟨M.lt,ja⟩}};rw[f.block b (by simp;omega) (by simp;exact hlt.2)];exact i.block b hlt.1});refine UU m (Fo.Fk.step hsm (λb E=>?_) _ _ HU.o) (.inr ⟨ja,_,m⟩) ja;(rcases E with h|⟨h,M⟩);{exact .inl h};{have H:=M.same (hsm b (.inr ⟨h,M⟩));simp at h;exact .inr ⟨ja,H⟩}};have c:=la l;have A:=la ((C.o.trans (i.mono ja)).grown f (by simp;omega) (λk e=>by cases e;omega));have B:=la p;clear O a i l f p m j;go_wp2;rw[<-B.o];have t0:=c.o.cell 0;have t1:=c.o.cell 1;have t2:=c.o.cell 2;have t3:=c.o.cell 3;have t4:=c.o.cell 4;refine Fb (Ee (v:=.agg #[pa 5,.string We,pa 0,pa 0,.slice (Nb (d.heap.size+1)) 1 1]) rfl _ _ _ rfl (by go_simp;try rfl)) rfl ⟨_,rfl,?_,A.o⟩;rw[Y.o,L.o];exact D.o}
section
structure LO (P : Nat -> Prop) (B0 : Nat) (G : Fo -> Fo) (unit zero : Int) (ks : List Fo) (wS : Ca) (j : Nat) (xs : List Cs) (ov : Ea) (wr : Ca) : Prop where
 mm:Da B0 wS wr
 own:wr.ownsRow B0 32 5 ov xs.length (xs.flatMap Cs.cells)
 ok:∀y∈xs,y.Ok wr (λb=>(P b\/(B0<=b/\Sp wr b))/\∀g,ov.ownBlock=some g->b≠g)
 map:xs.map (·.f)=((ks.take j).map G).filter (λk=>k.op !=unit)
 nz:∀k∈ks.take j,(G k).op≠zero
variable {P : Nat -> Prop} {B0 : Nat} {G : Fo -> Fo} {unit zero : Int} {ks : List Fo} {wS wr : Ca} {j : Nat} {xs : List Cs} {ov : Ea}
theorem LO.skip(h:LO P B0 G unit zero ks wS j xs ov wr)(l:B0<=wS.heap.size)(m:∀b,P b->b<B0){f:Ca}(d:Da wr.heap.size wr f)(e:j<ks.length)(g:(G ks[j]).op=unit)(o:(G ks[j]).op≠zero):
  LO P B0 G unit zero ks wS (j+1) xs ov f:=by
 have n:=h.mm.size;refine⟨h.mm.trans (d.mono ja),Wd h.own d,λy i=>(h.ok y i).step (λb a=>d.block b ?_) (λb a=>⟨a.1.imp id λq=>⟨q.1,q.2.same (d.block b q.2.lt)⟩,a.2⟩),?_,?_⟩
 ·rcases a.1 with q|q
  ·grind
  {exact q.2.lt}
 {rw[Ta e,Pb,yd,h.map];simp[g]}
 ·intro k c
  rw[Ta e]at c;rcases List.mem_append.1 c with c|c
  {exact h.nz k c}
  grind
theorem LO.push(h:LO P B0 G unit zero ks wS j xs ov wr)(E:B0<=wS.heap.size)(F:∀b,P b->b<B0){c w7:Ca}(m:Da wr.heap.size wr c)(v:j<ks.length)(C:(G ks[j]).op≠unit)(I:(G ks[j]).op≠zero)
  {x:Cs} (D:x.f=G ks[j]) (p:x.Ok c (λb=>P b\/(wr.heap.size<=b/\Sp c b))) {o:Obj} {v7:Ea} (w:w7.ownsRow B0 32 5 v7 (xs.length+1) (xs.flatMap Cs.cells++x.cells))
  (n:(c.alloc o).grownBy w7 ov.ownBlock) (l:v7.ownBlock=ov.ownBlock\/v7.ownBlock=some (c.alloc o).heap.size):LO P B0 G unit zero ks wS (j+1) (xs++[x]) v7 w7:=by
 have H:=h.mm.size;have B:=m.size;have s:=n.size;rw[Ia]at s l;have t:=h.own.lt
 have u:∀b,b<c.heap.size->(∀g,ov.ownBlock=some g->b≠g)->w7.heap[b]? =c.heap[b]? :=λb z A=>by{rw[n.block b (by simp;omega) (λe=>A b e.symm rfl),Bd _ _ _ z]}
 refine⟨(h.mm.trans (m.mono ja)).trans (((za _ _).alloc ja o).grown n (by simp;omega) λk e=>(t k e).1),by grind,λy d=>?_,?_,?_⟩
 ·rcases List.mem_append.1 d with d|d
  ·have hlt:∀b,(P b\/(B0<=b/\Sp wr b))->b<wr.heap.size:=λb q=>by
    rcases q with q|q
    ·grind
    {exact q.2.lt}
   have hsm:∀b,(P b\/(B0<=b/\Sp wr b))->(∀g,ov.ownBlock=some g->b≠g)->w7.heap[b]? =wr.heap[b]? :=λb q r=>by{rw[u b (by grind) r,m.block b (hlt b q)]}
   refine(h.ok y d).step (λb a=>hsm b a.1 a.2) (λb a=>?_);refine⟨a.1.imp id λq=>⟨q.1,q.2.same (hsm b a.1 a.2)⟩,λg e=>?_⟩
   grind
  ·rw[Qd]at d
   subst d
   have hlt:∀b,(P b\/(wr.heap.size<=b/\Sp c b))->b<c.heap.size:=λb q=>by
    rcases q with q|q
    ·grind
    {exact q.2.lt}
   have hno:∀b,(P b\/(wr.heap.size<=b/\Sp c b))->∀g,ov.ownBlock=some g->b≠g:=λb q g e=>by
    grind
   refine p.step (λb a=>u b (hlt b a) (hno b a)) (λb a=>?_);refine⟨a.imp id λq=>⟨ja,q.2.same (u b (hlt b a) (hno b a))⟩,λg e=>?_⟩
   grind
 {rw[Ta v,Pb,Pb,yd,h.map];simp[C,D]}
 ·intro k i
  rw[Ta v]at i;rcases List.mem_append.1 i with i|i
  {exact h.nz k i}
  grind
theorem WM(a:j<ks.length)(h:∀k∈ks.take j,(G k).op≠zero)(b:(G ks[j]).op=zero):Pk Z unit zero (ks.map G)=G ks[j]:=by
 unfold Pk
 have:(ks.map G).find? (λk=>k.op==zero)=some (G ks[j]):=by
  have hd:ks=ks.take j++ks[j]::ks.drop (j+1):=by simp_all
  grind
 rw[this]
def wX(a unit:Int):List Fo->Fo
 | []=>.mk unit We 0 0 []
 | [k]=>k
 | ks=>.mk a We 0 0 ks
theorem XM{op:Int}(h:∀k∈ks,(G k).op≠zero){b:List Fo}(c:b=(ks.map G).filter (λk=>k.op !=unit)):Pk op unit zero (ks.map G)=wX op unit b:=by
  unfold Pk
  rw[List.find?_eq_none.2 (by
      grind)]
  rw[<-c];cases b with| nil=>rfl| cons a l=>cases l<;>rfl
theorem LO.parts(h:LO P B0 G unit zero ks wS j xs ov wr)(n:B0<=wS.heap.size)(p:∀b,P b->b<B0)(i:j<ks.length):
  ((G ks[j]).op==zero)=true/\(∀s,Pk s unit zero (ks.map G)=G ks[j])\/((G ks[j]).op==zero)=false/\
   (((G ks[j]).op==unit)=true/\(∀d,Da wr.heap.size wr d->LO P B0 G unit zero ks wS (j+1) xs ov d)\/((G ks[j]).op==unit)=false/\∀(d m:Ca) (x:Cs) (o:Obj) (e:Ea),Da wr.heap.size wr d->x.f=G ks[j]->x.Ok d (λb=>P b\/(wr.heap.size<=b/\Sp d b))->
    m.ownsRow B0 32 5 e (xs.length+1) (xs.flatMap Cs.cells++x.cells)->(d.alloc o).grownBy m ov.ownBlock->(e.ownBlock=ov.ownBlock\/e.ownBlock=some (d.alloc o).heap.size)->LO P B0 G unit zero ks wS (j+1) (xs++[x]) e m):=by
 by_cases l:(G ks[j]).op=zero
 {exact .inl ⟨by grind,λ_=>WM i h.nz l⟩}
 {refine .inr ⟨by grind,?_⟩;by_cases q:(G ks[j]).op=unit;{exact .inl ⟨by grind,λ_ g=>h.skip n p g i q l⟩};{exact .inr ⟨by grind,λ_ _ _ _ _ g r k a b c=>h.push n p g i q l r k a b c⟩}}
theorem bE{w a:Ca}{A B g:Nat}{f:Fo}{v:Ea}(i:f.Fk w (λb=>P b\/(A<=b/\Sp w b)) v)(c:w.grownBy a (some g))(d:∀b,P b->b<g/\b<w.heap.size)(j:g<A)(l:B<=A):f.Fk a (λb=>P b\/(B<=b/\Sp a b)) v:=
 have q:∀b,(P b\/(A<=b/\Sp w b))->a.heap[b]? =w.heap[b]? :=λb h=>h.elim (λh=>c.block b (d b h).2 λe=>by grind) (λh=>c.block b h.2.lt λe=>by grind)
 Fo.Fk.step q (λb h=>h.imp id λk=>⟨ja,k.2.same (q b h)⟩) _ _ i
theorem qb.step{w c:Ca}{b:Nat}{a:Array Ea}(h:qb w b E a)(e:c.heap[b]? =w.heap[b]?):qb c b E a:=e.trans h
theorem qb.sQ{w:Ca}{b:Nat}{a c d c3 e:Ea}(h:qb w b E #[a,c,d,c3,e]):(w.cell? (Ya b)=some a/\w.cell? (Ja b 1)=some c/\w.cell? (Ja b 2)=some d/\w.cell? (Ja b 3)=some c3/\w.cell? (Ja b 4)=some e)/\w.frozen? (Ya b)=false/\w.frozen? (Ja b 1)=false/\w.frozen? (Ja b 2)=false/\w.frozen? (Ja b 3)=false/\w.frozen? (Ja b 4)=false:=
 ⟨⟨h.cell 0,h.cell 1,h.cell 2,h.cell 3,h.cell 4⟩,h.frozen 0,h.frozen 1,h.frozen 2,h.frozen 3,h.frozen 4⟩
theorem cE{f:Func}{R:Ending->Ca->Prop}{p:Tmp}{w:Ca}{b:Nat}{a c d c3 e:Ea}(h:qb w b 32 #[a,c,d,c3,e])(hs:f.results=#[.cell p 32])(i:K.tmps.getD p undef=Ma b)(hd:K.defers=[])(_:a.oneCell'=true/\c.oneCell'=true/\d.oneCell'=true/\c3.oneCell'=true/\e.oneCell'=true)(g:R (.returned (.agg #[a,c,d,c3,e])) w):bodyPost prog f R .ret K w:=by
 obtain⟨⟨k,l,m,n,o⟩, -⟩:=h.sQ;exact Fb (Ee hs _ _ _ i (by go_simp)) hd g
theorem iG(P:Nat->Prop)(nm:Na)(x:Int)(D unit zero:Int)(hop:D=6/\unit=1/\zero=2\/D=7/\unit=2/\zero=1)(ks:List Fo)(IH:∀k∈ks,VM P nm x k)(hl:ks.length<=100000):VM P nm x (.mk D We 0 0 ks):=by
 intro v W hP hv;obtain⟨ao,cap,rfl,k1,k2,w1,w2,w3,w4,hk⟩:=hv.shape;simp only[Fo.op,Fo.name,Fo.cmp,Fo.n,Fo.kids]at*
 have hG:Sg nm x (.mk D We 0 0 ks)=Pk D unit zero (ks.map (Sg nm x)):=by{rw[Sg,Dt];rcases hop with⟨rfl,rfl,rfl⟩|⟨rfl,rfl,rfl⟩<;>simp}
 have HG:=la hG;have HK:=la hk;have CI:=la IH;have k0:=(qb.new W 32 #[pa D,.string We,pa 0,pa 0,.slice ao ks.length cap]).alloc (.cells #[pa 0,.string ⟨#[]⟩,pa 0,pa 0,Ua] 32);have k1:=qb.new (W.alloc (.cells #[pa D,.string We,pa 0,pa 0,.slice ao ks.length cap] 32)) 32 #[pa 0,.string ⟨#[]⟩,pa 0,pa 0,Ua];have tm:Da _ W ((W.alloc (.cells #[pa D,.string We,pa 0,pa 0,.slice ao ks.length cap] 32)).alloc (.cells #[pa 0,.string ⟨#[]⟩,pa 0,pa 0,Ua] 32)):=((za _ _).alloc (wa _) _).alloc Aa _;have hsS:((W.alloc (.cells #[pa D,.string We,pa 0,pa 0,.slice ao ks.length cap] 32)).alloc (.cells #[pa 0,.string ⟨#[]⟩,pa 0,pa 0,Ua] 32)).heap.size=W.heap.size+2:=by simp
 rw[Ia]at k1;generalize hwS:(W.alloc _).alloc _=wS at*
 have J3:=la tm;have HF:=la k0;have HR:=la k1;have HP:=la (show ∀b,P b->b<W.heap.size+2 from λb h=>by have:=hP b h;omega);obtain⟨J,hJJ⟩:∃J:Nat->List Cs->Ea->Ca->Prop,J=LO P (W.heap.size+2) (Sg nm x) unit zero ks wS:=⟨_,rfl⟩
 have K':Hid (J 0 [] Ua wS):=by{rw[hJJ];exact⟨za _ _,Ec _ _ _ _,Aa,Aa,Aa⟩}
 have HWS:=la hwS;have Y:=la hJJ;have H60:=la (λw h=>tJ (W:=w) (p:=W.heap.size+1) (c0:=pa 0) (c1:=.string ⟨#[]⟩) (c2:=pa 0) (c3:=pa 0) (c4:=Ua) h (pa unit) (.string ⟨#[]⟩) (pa 0) (pa 0) Ua);have H63:=la (λw h=>tJ (W:=w) (p:=W.heap.size+1) (c0:=pa 0) (c1:=.string ⟨#[]⟩) (c2:=pa 0) (c3:=pa 0) (c4:=Ua) h (pa D) (.string ⟨#[]⟩) (pa 0) (pa 0));have Bt:Hid (∀w Q,(Fo.mk unit We 0 0 []).Fk w Q (.agg #[pa unit,.string We,pa 0,pa 0,Ua])):=λw Q=>⟨none,0,rfl,by rcases hop with⟨-,rfl, -⟩|⟨-,rfl, -⟩<;>exact⟨Ba,Ba⟩,⟨Ba,Ba⟩,⟨Ba,Ba⟩,Ba,Lb _,Lb _,λe=>absurd rfl e⟩
 have uL:=la (λ(O:List Cs) (hz:2<=O.length)=>show wX D unit (O.map (·.f))=.mk D We 0 0 (O.map (·.f))from by match O,hz with|_::_::_,_=>rfl);have HW1:=la w1;clear hv hk IH hG hwS k0 k1 tm hJJ w1;obtain⟨i0,Kw,yx,Un,BA⟩:=info_parts pQ;rcases hop with⟨rfl,rfl,rfl⟩|⟨rfl,rfl,rfl⟩
 all_goals
  go_enter func107,ntmps107;go_upto_region 17 with(fail);rw[HWS.o];clear HWS
  go_loopw [10,63] (λov iv wr=>∃(j:Nat) (xs:List Cs),j<=ks.length/\iv=pa j/\xs.length<=j/\Hid (J j xs ov wr)) (λ_ iv _=>ks.length-(intOf iv).toNat)
  case atStart=>exact⟨0,[],ja,rfl,Aa,K'⟩
  case round=>
   obtain⟨j,xs,hj,rfl,FF,E⟩:=hrel;have HN:=la (show ∀j xs ov wr,LO _ _ _ _ _ _ _ j xs ov wr->Hid (J j xs ov wr)from λ_ _ _ _ h=>by rw[Y.o];exact la h);rw[Y.o]at E;have mF:=E.o.mm.size;have q:=J3.o.trans (E.o.mm.mono ja);have I:=la (HR.o.step (E.o.mm.block _ ja));have JP:=la (HF.o.step (E.o.mm.block _ ja));have vO:=la q;clear K' Y;by_cases hlt:j<ks.length
   ·obtain⟨b,off,rfl,hPb,hL⟩:=HK.o (by intro e;rw[e]at hlt;simp at hlt)
    obtain⟨ka,kc,c0,c1,c2,c3,c4,R⟩:=Fo.Co.get ks off j hlt hL;have hbP:=hP b hPb;rw[<-q.cell hbP]at c0 c1 c2 c3 c4
    have HI:=la (CI.o _ (Oa _) _ (wr.alloc (.cells #[pa ks[j].op,.string ks[j].name,pa ks[j].cmp,pa ks[j].n,.slice ka ks[j].kids.length kc] 32)) (λb hb=>by have:=hP b hb;simp;omega)
     (Fo.Fk.step (Ds hP (q.alloc ja _)) (λ_ h=>h) _ _ R))
    have HC:=la (E.o.parts ja HP.o hlt);have hKK:=qb.new wr 32 #[pa ks[j].op,.string ks[j].name,pa ks[j].cmp,pa ks[j].n,.slice ka ks[j].kids.length kc];generalize Sg nm x ks[j]=g at*
    clear R hL q hbP;go_upto_region 20 with(go_at_call 107;refine HI.o.mono ?_;rintro e w2 ⟨u,rfl,hu,Am⟩;obtain⟨S,T,rfl,u1,u2,u3,u4,u5,u6,_⟩:=hu.shape;have HU:=la hu;have X:=la Am;have EI:=hKK.below Am;obtain⟨⟨r0,r1,r2,r3,r4⟩,f0,f1,f2,f3,f4⟩:=EI.sQ;obtain⟨w5,xX,M3,yX⟩:=tJ EI (pa g.op) (.string g.name) (pa g.cmp) (pa g.n) (.slice S g.kids.length T);have HW5:=la xX;have dr:=la M3;have M:=la yX;clear hu Am EI xX M3 yX);rw[<-HW5.o];have Qu:=X.o.size;rw[Ia]at Qu;have LD:=M.o.size;have HB:=la ((((za _ wr).alloc (wa _) _).trans (X.o.mono (by rw[Ia];omega))).grown M.o ja (λk e=>by cases e;exact wa _));have H:=la (bE (B:=wr.heap.size) HU.o M.o (λb h=>by have:=hP b h;omega) Aa Aa);obtain⟨⟨t0,t1,t2,t3,t4⟩, -⟩:=dr.o.sQ;have amF:wr.heap.size<w5.heap.size:=by omega
    clear HW5 r0 r1 r2 r3 r4 f0 f1 f2 f3 f4 HI c0 c1 c2 c3 c4 X M HU dr hKK Qu;rcases HC.o with⟨uU,hz⟩|⟨uU,⟨huu,hS⟩|⟨huu,hS⟩⟩
    {have hR5:=I.o.step (HB.o.block _ ja);obtain⟨⟨r0,r1,r2,r3,r4⟩,f0,f1,f2,f3,f4⟩:=hR5.sQ;obtain⟨s,r,m,d⟩:=tJ hR5 (pa g.op) (.string g.name) (pa g.cmp) (pa g.n) (.slice S g.kids.length T);have F:=la (λs (d:w5.grownBy s (some (W.heap.size+1)))=>(vO.o.trans (HB.o.mono ja)).grown d ja (λk e=>by cases e;omega));have l:=la (bE (B:=W.heap.size) H.o d (λb h=>by have:=hP b h;omega) ja ja);have G:=la hz;(have C:=la r;have t:=la m;have z:=la (F.o s d);go_wp2;rw[<-C.o];exact cE t.o rfl rfl rfl ⟨rfl,rfl,rfl,rfl,rfl⟩ ⟨_,rfl,by rw[HG.o,G.o];exact l.o,z.o⟩)}
    {have HS:=la (HN.o _ _ _ _ (hS w5 HB.o));go_wp2;go_roundw;(case rel=>exact⟨_,xs,ja,by go_num,ja,HS⟩);case measure=>simp[intOf];omega}
    {have G':=zm ⟨g,S,T⟩;simp only[Cs.cells]at G';have HS:=la (λw7 v7 a b c=>HN.o _ _ _ _ (hS w5 w7 ⟨g,S,T⟩ (.cells (Cs.mk g S T).cells.toArray 32) v7 HB.o rfl H.o a b c));have HOW:=la ((Wd E.o.own HB.o).alloc (.cells (Cs.mk g S T).cells.toArray 32));(have tQ:W.heap.size+2<=(w5.alloc (.cells (Cs.mk g S T).cells.toArray 32)).heap.size:=by simp;omega);clear E HC hS;go_wp2_with (at_builtin;refine wpList_append_own_at _ Ra _ _ 30 Ra _ 32 i0 _ 5 64 Tryz.underlying30 Kw yx Un BA rfl Ba _ _ _ Ra HOW.o _ 1 1 _ Ra Ra (yZ ⟨g,S,T⟩ w5) (by intro u hu;simp[Cs.cells]at hu;rcases hu with rfl|rfl|rfl|rfl|rfl<;>rfl) ja ja tQ ?_;intro v7 w7 q7 N ahJ acN;refine Hid.o ?_);refine la ?_;have zX:=HS.o w7 v7 q7 N acN;go_wp2;go_roundw;(case rel=>exact⟨_,_,ja,by go_num,by simp;omega,zX⟩);case measure=>simp[intOf];omega}
   {(obtain rfl:j=ks.length:=ja);have K:=E.o.map;rw[Ub]at K;have G:=la (λD=>XM (op:=D) (λk hk=>E.o.nz k (by rw[Ub];exact hk)) K);have i:=la E.o.own;have H:=la (λy hy=>(E.o.ok y hy).step (λ_ _=>rfl) (λb h=>h.1));obtain⟨va,U,dX⟩:=Xd E.o.own;obtain⟨⟨r0,r1,r2,r3,r4⟩,f0,f1,f2,f3,f4⟩:=I.o.sQ;have g0:=JP.o.cell 0;have Z:=la (λs f v (hg:wr.grownBy s (some (W.heap.size+1))) hf=>bE (f:=f) (v:=v) (A:=W.heap.size+2) (B:=W.heap.size) hf hg (λb h=>by have:=hP b h;omega) ja ja);have F:=la (λs (hg:wr.grownBy s (some (W.heap.size+1)))=>vO.o.grown hg ja (λk e=>by cases e;omega));subst dX;clear K q E;(rcases xs with _|⟨y,_|⟨y2,ys⟩⟩);{obtain⟨s,r,m,d⟩:=H60.o wr I.o;have l:=la (Z.o s _ _ d (Bt.o _ _));(have C:=la r;have t:=la m;have z:=la (F.o s d);go_wp2;rw[<-C.o];exact cE t.o rfl rfl rfl ⟨rfl,rfl,rfl,rfl,rfl⟩ ⟨_,rfl,by rw[HG.o,G.o];exact l.o,z.o⟩)};{obtain⟨L,yao,V⟩:=y;obtain⟨g,cp,uQ,eX,ZT⟩:=i.o.form Aa;(obtain⟨rfl,rfl⟩:va=some ⟨g,0,none⟩/\U=cp:=by simpa using uQ);obtain⟨s,r,m,d⟩:=tJ I.o (pa L.op) (.string L.name) (pa L.cmp) (pa L.n) (.slice yao L.kids.length V);have l:=la (Z.o s L _ d (H.o _ (Wa ..)));have t0:wr.cell? _=some (.int _ L.op):=i.o.cellAt 0 Aa;have t1:wr.cell? _=some (.string L.name):=i.o.cellAt 1 Aa;have t2:wr.cell? _=some (.int _ L.cmp):=i.o.cellAt 2 Aa;have t3:wr.cell? _=some (.int _ L.n):=i.o.cellAt 3 Aa;have t4:wr.cell? _=some (.slice yao L.kids.length V):=i.o.cellAt 4 Aa;(have C:=la r;have t:=la m;have z:=la (F.o s d);go_wp2;rw[<-C.o];exact cE t.o rfl rfl rfl ⟨rfl,rfl,rfl,rfl,rfl⟩ ⟨_,rfl,by rw[HG.o,G.o];exact l.o,z.o⟩)};{(have ez:2<=(y::y2::ys).length:=Aa);generalize y::y2::ys=O at*;(have z0:((O.length:Int)==0)=false:=by rw[beq_eq_false_iff_ne];omega);(have z1:((O.length:Int)==1)=false:=by rw[beq_eq_false_iff_ne];omega);obtain⟨s,r,m,d⟩:=H63.o wr I.o (.slice va O.length U);have l:=la (Z.o s (.mk _ We 0 0 _) _ d (zZ i.o (λg hg=>.inr (qQ i.o g hg)) H.o HW1.o ⟨Ba,Ba⟩ ⟨Ba,Ba⟩ Ba));rw[<-uL.o O ez]at l;(have C:=la r;have t:=la m;have z:=la (F.o s d);clear r m d;go_wp2;rw[<-C.o];exact cE t.o rfl rfl rfl ⟨rfl,rfl,rfl,rfl,rfl⟩ ⟨_,rfl,by rw[HG.o,G.o];exact l.o,z.o⟩)}}
theorem en(b c n:Int)(s:Na)(ks:List Fo):∀k∈ks,k.size<(Fo.mk b s c n ks).size:=by
 intro k d
 have:∀ks,k∈ks->k.size<=Fo.Cd ks:=by
  intro ks
  induction ks with
  | nil=>grind
  | cons a l e=>
   grind [Fo.Cd]
 grind [Fo.size]
theorem vQ(b c n:Int)(s:Na)(ks:List Fo):ks.length<(Fo.mk b s c n ks).size:=by
 have:∀ks,ks.length<=Fo.Cd ks:=by{intro ks;induction ks with| nil=>simp| cons a l d=>{rw[Fo.Cd,Qb];obtain⟨o,m,c,n,e⟩:=a;rw[Fo.size];omega}}
 grind [Fo.size]
theorem eC(P:Nat->Prop)(g:Na)(x:Int)(d:List Fa):∀(N:Nat) (f:Fo),f.size<=N->N<=100000->Gk d f->VM P g x f:=by
 intro N
 induction N with
 | zero=>intro f h;obtain⟨i,s,c,n,ks⟩:=f;grind [Fo.size]
 | succ N o=>
  intro f h p hw;obtain⟨i,s,c,n,ks⟩:=f;have q:=en i c n s ks;have hlen:=vQ i c n s ks;have l:=λb k m=>o k (by grind) ja ((Si d ks).1 b k m)
  rw[Gk]at hw;rcases hw with⟨a,rfl,rfl,rfl,rfl⟩|⟨rfl,a,_,_,_,rfl⟩|⟨a,rfl,rfl,rfl,j⟩
  {exact gG P g x i 0 0 We ja (λe=>by omega)}
  ·grind [gG]
  ·rcases a with⟨rfl,b⟩|⟨a,b⟩
   ·match ks,b with
    | [k],_=>grind [VU]
   {(rcases a with rfl|rfl);{exact iG P g x 6 1 2 ja ks (l j) ja};{exact iG P g x 7 2 1 ja ks (l j) ja}}
end
end Go.Proofs.YtdipkbobalnilaaGreatDoor
