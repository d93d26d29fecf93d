/- The walks of ask and step. No conditions. -/
import Derived.Test.YtdipkbobalnilaaGreatDoorAl
import Derived.Test.YtdipkbobalnilaaGreatDoorDgVH
set_option maxRecDepth 100000
set_option maxHeartbeats 4000000
namespace Go.Proofs.YtdipkbobalnilaaGreatDoor
open Tryz
variable{j:Nat}{C:List Int}
section
variable {nf : Nat} {lo hi : Nat -> Int}
structure ahl (nf : Nat) (lo hi : Nat -> Int) (ss : Nat -> List Int) (F : (Nat -> Int)-> Bool) : Prop where
 chain:∀i,i<nf->He (hi i) (lo i) (ss i)
 same:∀c c',od nf lo hi c->od nf lo hi c'->(∀j,j<nf->Ie (ss j) (c j)=Ie (ss j) (c' j))->F c=F c'
end
section
section
variable {nf : Nat} {lo hi : Nat -> Int} {a b : List Dn} {A B F H : (Nat -> Nat -> Int)-> Bool}
end
variable {nf : Nat} {lo hi : Nat -> Int} {a b : List Dn} {A B : Nat -> (Nat -> Int)-> Bool} {F H : (Nat -> Int)-> Bool}
def sJ(nf:Nat)(lo:Nat->Int)(a b:List Dn)(x y:Nat):List Int:=
 qt ((lo (Tc nf a b x y)::((if Rb nf (a.getD x Ka)=Tc nf a b x y then(a.getD x Ka).Sb else[])++(if Rb nf (b.getD y Ka)=Tc nf a b x y then(b.getD y Ka).Sb else[]))).mergeSort λx y=>decide (x<=y))
theorem qL(g:Ce nf lo hi a A){i:Nat}(h:j<a.length)(f:Rb nf (a.getD j Ka)=i):∀c∈(a.getD j Ka).Sb,lo i<=c/\c<=hi i:=by
 intro c b;by_cases e:(a.getD j Ka).kids=[]
 {rw[((g.table j h).leaf e).2]at b;cases b}
 ·unfold Rb at f
  rw[if_neg e]at f;have d:=(g.table j h).inner e;have:=Vm _ _ d.2.2.2.2.2.1 c b
  grind
theorem fL(m:Ce nf lo hi a A)(s:Ce nf lo hi b B){y:Nat}(k:j<a.length)(z:y<b.length)(f:Tc nf a b j y<nf):∃e,sJ nf lo a b j y=lo (Tc nf a b j y)::e/\He (hi (Tc nf a b j y)) (lo (Tc nf a b j y)) e/\
   ((a.getD j Ka).kids≠[]->(a.getD j Ka).fact=(Tc nf a b j y:Nat)->∀c∈(a.getD j Ka).Sb,c∈lo (Tc nf a b j y)::e)/\
   ((b.getD y Ka).kids≠[]->(b.getD y Ka).fact=(Tc nf a b j y:Nat)->∀c∈(b.getD y Ka).Sb,c∈lo (Tc nf a b j y)::e):=by
 unfold sJ;generalize u:Tc nf a b j y=i at*
 generalize w:(lo i::((if Rb nf _=i then(a.getD j Ka).Sb else[])++(if Rb nf _=i then(b.getD y Ka).Sb else[])))=l
 have g:∀c∈l,lo i<=c/\c<=hi i:=by{intro c d;rw[<-w]at d;(rcases List.mem_cons.1 d with rfl|d);{exact⟨ja,m.dom i f⟩};{(rcases List.mem_append.1 d with d|d);{(split at d);{next h=>exact qL m k h c d};{cases d}};{(split at d);{next h=>exact qL s z h c d};{cases d}}}}
 have x:(l.mergeSort λj y=>decide (j<=y)).Pairwise (· <= ·):=by
  grind [List.pairwise_mergeSort]
 obtain⟨C,e,o,p,q,r⟩:=xt x (λj k=>g j (List.mem_mergeSort.1 k)) (List.mem_mergeSort.2 (by grind));have n:=λc d=>(r c).2 (List.mem_mergeSort.2 d)
 refine⟨e,by rw[o,p];rfl,q,λv t c d=>?_,λv t c d=>?_⟩
 all_goals grind [Rb]
structure bZ (d : List Fa) (a b : List Dn) : Prop where
 va:Qc d a
 vb:Qc d b
 ex:∃R:Nat->Nat->Prop,R 0 0/\(∀m dn,RA d.length (Fg d) (Hi d) a b (Uc d a) (Uc d b) R m dn->m.length<=20000)/\(∀x y,R x y->x<a.length/\y<b.length)/\
  ∀x y v,R x y->Tc d.length a b x y<d.length->v∈sJ d.length (Fg d) a b x y->R (oe a x (Tc d.length a b x y) v) (oe b y (Tc d.length a b x y) v)
variable {d : List Fa}
theorem aQ(e:Qc d a)(f:Qc d b)(h:a.length*b.length<=19998):bZ d a b:=by
 refine⟨e,f,λx y=>x<a.length/\y<b.length,⟨e.pos,f.pos⟩,λm dn g=>?_,λx y h=>h,λx y v h c i=>?_⟩
 {have:=FM g e.yh.dom (λ_ _ h=>h);omega}
 {exact⟨(Li e.yh h.1 c (qe _ _) v).1,(Li f.yh h.2 c (Zf _ _) v).1⟩}
def Yj(d:List Fa)(a b:List Dn)(f:Nat)(m:List Dn)(dn:Mf)(x y:Nat):(List Dn×Mf)×Nat:=ei d.length a b (sJ d.length (Fg d) a b) 20000 f m dn x y
def Mh(d:List Fa)(a b:List Dn):(List Dn×Mf)×Nat:=Yj d a b (d.length+1) [] [] 0 0
def Gm(d:List Fa)(a b:List Dn):List Dn:=ue (Mh d a b).1.1 (Mc (Mh d a b).1.1 (d.length+1) [] (Mh d a b).2)
theorem Fy(R:Nat->Nat->Prop)(A B:Nat->(Nat->Int)->Bool):RA nf lo hi a b A B R [] []:=⟨Made.nil,λk c=>absurd c (Od k),λx y k h=>by cases h⟩
theorem FP(h:bZ d a b):∃R,RA d.length (Fg d) (Hi d) a b (Uc d a) (Uc d b) R (Mh d a b).1.1 (Mh d a b).1.2/\zj d.length (Fg d) (Hi d) a b (Uc d a) (Uc d b) (Mh d a b).1.1 0 0 (Mh d a b).2/\(Mh d a b).1.1.length<=20000:=by
 obtain⟨R,j,c,f,l⟩:=h.ex;obtain⟨g,k,_⟩:=OU h.va.yh h.vb.yh c f l (λx y i e=>fL h.va.yh h.vb.yh (f x y i).1 (f x y i).2 e) (d.length+1) [] [] 0 0 (Fy _ _ _) j ja;exact⟨R,g,k,c _ _ g⟩
end
section
variable {nf : Nat} {lo hi : Nat -> Int} {a b : List Dn} {A B : Nat -> (Nat -> Int)-> Bool}
def sj(m:List Dn):Nat:=(m.filter λn=> !n.kids.isEmpty).length
theorem rL(m:List Dn):sj m<=m.length:=ve _ _
theorem Gy(m:List Dn)(n:Dn):sj (me m n).1<=sj m+(if n.kids=[]then 0 else 1):=by
 grind [me,sj]
theorem Hy(m:List Dn)(i:Int)(b a:List Int):sj (Ob m i b a).1<=sj m+1:=by
 grind [Ob,Gy]
theorem Gl{m:List Dn}(h:Made nf lo hi m):m.length<=sj m+2:=by
 have e:m.length=(m.filter λn=> !n.kids.isEmpty).length+(m.filter λn=>decide (n.kids=[])).length:=by
  have:=List.length_eq_countP_add_countP (λn=> !n.kids.isEmpty) (l:=m);rw[List.countP_eq_length_filter,List.countP_eq_length_filter]at this
  grind
 have q:(m.filter λn=>decide (n.kids=[])).length<=[(⟨0,[],[],false⟩:Dn),⟨0,[],[],true⟩].length:=by{(refine Ac (h.nodup.sublist (List.filter_sublist ..)) λn g=>?_);obtain⟨d,o⟩:=List.mem_filter.1 g;obtain⟨k,a,rfl⟩:=Zc d;have b:=h.table k a;rw[Gd _ _ _ a]at b;(have i:m[k].kids=[]:=by grind);have:=b.leaf i;(rcases p:m[k]with⟨f,c,r,j⟩);simp_all}
 grind [sj]
structure QA (nf : Nat) (lo hi : Nat -> Int) (a b : List Dn) (A B : Nat -> (Nat -> Int)-> Bool) (L : Nat) (m : List Dn) (dn : Mf) : Prop where
 made:Made nf lo hi m
 Vf:∀x y k,dn.lookup (x,y)=some k->k<m.length/\Tc nf a b x y<=Rb nf (m.getD k Ka)
 inv:m.length<=L->RA nf lo hi a b A B (λx y=>x<a.length/\y<b.length) m dn
theorem DF(L:Nat):QA nf lo hi a b A B L [] []:=⟨Made.nil,λ_ _ _ h=>(by cases h),λ_=>Fy _ _ _⟩
theorem aC{m:List Dn}(h:j<m.length)(u:List Dn):(m++u).getD j Ka=m.getD j Ka:=by
 grind
structure QB (nf : Nat) (lo hi : Nat -> Int) (a b : List Dn) (A B : Nat -> (Nat -> Int)-> Bool) (L f : Nat) (m : List Dn) (x y : Nat) (r : (List Dn × Mf) × Nat) : Prop where
 inv:QA nf lo hi a b A B L r.1.1 r.1.2
 lt:r.2<r.1.1.length
 oo:Tc nf a b x y<=Rb nf (r.1.1.getD r.2 Ka)
 node:r.1.1.length<=L->zj nf lo hi a b A B r.1.1 x y r.2
 grow:∃u,r.1.1=m++u
 Ar:sj r.1.1<=max (sj m) (L+f)
def TB(nf:Nat)(a b:List Dn)(S:Nat->Nat->List Int)(L f x y:Nat)(c:(List Dn×Mf)×List Int)(v:Int):(List Dn×Mf)×List Int:=
 ((ei nf a b S L f c.1.1 c.1.2 (oe a x (Tc nf a b x y) v) (oe b y (Tc nf a b x y) v)).1,c.2++[((ei nf a b S L f c.1.1 c.1.2 (oe a x (Tc nf a b x y) v) (oe b y (Tc nf a b x y) v)).2:Int)])
structure UB (nf : Nat) (lo hi : Nat -> Int) (a b : List Dn) (A B : Nat -> (Nat -> Int)-> Bool) (L f : Nat) (m : List Dn) (x y : Nat) (pre : List Int) (r : (List Dn × Mf) × List Int) : Prop where
 inv:QA nf lo hi a b A B L r.1.1 r.1.2
 len:r.2.length=pre.length
 kids:∀j,j<r.2.length->0<=r.2.getD j 0/\(r.2.getD j 0).toNat<r.1.1.length/\Tc nf a b x y<Rb nf (r.1.1.getD (r.2.getD j 0).toNat Ka)/\
  (r.1.1.length<=L->zj nf lo hi a b A B r.1.1 (oe a x (Tc nf a b x y) (pre.getD j 0)) (oe b y (Tc nf a b x y) (pre.getD j 0)) (r.2.getD j 0).toNat)
 grow:∃u,r.1.1=m++u
 Ar:sj r.1.1<=max (sj m) (L+f)
theorem iJ(s:Ce nf lo hi a A)(t:Ce nf lo hi b B){S:Nat->Nat->List Int}{f:Nat}
  (D:∀(m:List Dn) (dn:Mf) (x y:Nat),QA nf lo hi a b A B j m dn->x<a.length->y<b.length->nf-Tc nf a b x y<f->QB nf lo hi a b A B j f m x y (ei nf a b S j f m dn x y))
  {x y:Nat} (z:x<a.length) (C:y<b.length) (i:Tc nf a b x y<nf) (L:nf-Tc nf a b x y<f+1) {m:List Dn} {pre:List Int} {d:(List Dn×Mf)×List Int} (h:UB nf lo hi a b A B j f m x y pre d) (v:Int):
  UB nf lo hi a b A B j f m x y (pre++[v]) (TB nf a b S j f x y d v):=by
 have o:Tc nf a b x y<=Rb nf _:=qe _ _;have p:Tc nf a b x y<=Rb nf _:=Zf _ _;have G:=Li s z i o v;have H:=Li t C i p v
 have k:Tc nf a b x y<Tc nf a b (oe a x (Tc nf a b x y) v) (oe b y (Tc nf a b x y) v):=by{show _<min _ _;omega}
 have g:=D _ _ _ _ h.inv G.1 H.1 (by
  omega)
 unfold TB;generalize ei nf a b S j f _ _ _ _=r at*
 obtain⟨u,M⟩:=g.grow;obtain⟨u0,w⟩:=h.grow;have hlen:d.1.1.length<=r.1.1.length:=by grind
 refine⟨g.inv,by simp[h.len],λc l=>?_,⟨u0++u,by grind⟩,?_⟩
 ·have l:c<(d.2++[(r.2:Int)]).length:=l
  rw[Qa]at l;rcases td c d.2.length with e|e
  ·obtain⟨E,N,O,F⟩:=h.kids c e
   show 0<=(d.2++[(r.2:Int)]).getD c 0/\((d.2++[(r.2:Int)]).getD c 0).toNat<r.1.1.length/\Tc nf a b x y<Rb nf (r.1.1.getD ((d.2++[(r.2:Int)]).getD c 0).toNat Ka)/\(r.1.1.length<=j->zj nf lo hi a b A B r.1.1 _ _ ((d.2++[(r.2:Int)]).getD c 0).toNat)
   rw[kj _ _ _ e,kj _ _ _ (show c<pre.length by have:=h.len;omega)];refine⟨E,ja,?_,λK=>?_⟩
   ·grind
   ·have q:=(F ja).more u
    grind
  {(have n:c=d.2.length:=by grind);subst n;rw[Af,h.len,Af,Fc];exact⟨ja,g.lt,Zb k g.oo,g.node⟩}
 ·have I:=g.Ar
  have J:=h.Ar
  grind
theorem Tu(e:Ce nf lo hi a A)(g:Ce nf lo hi b B){S:Nat->Nat->List Int}{L f:Nat}
  (n:∀(m:List Dn) (dn:Mf) (x y:Nat),QA nf lo hi a b A B L m dn->x<a.length->y<b.length->nf-Tc nf a b x y<f->QB nf lo hi a b A B L f m x y (ei nf a b S L f m dn x y))
  {x y:Nat} (j:x<a.length) (k:y<b.length) (c:Tc nf a b x y<nf) (i:nf-Tc nf a b x y<f+1) {m:List Dn}:∀(l pre:List Int) (d:(List Dn×Mf)×List Int),UB nf lo hi a b A B L f m x y pre d->
  UB nf lo hi a b A B L f m x y (pre++l) (l.foldl (TB nf a b S L f x y) d)
 | [],pre,d,h=>by grind
 | v::l,pre,d,h=>by{have q:=Tu e g n j k c i l (pre++[v]) _ (iJ e g n j k c i h v);rw[Ic]at q;exact q}
theorem S6(o:Ce nf lo hi a A)(t:Ce nf lo hi b B){f:Nat}{m:List Dn}{dn:Mf}{x y:Nat}(g:QA nf lo hi a b A B j m dn)(s:x<a.length)(C:y<b.length)(w:Tc nf a b x y=nf\/j<m.length):
  QB nf lo hi a b A B j f m x y (((me m ⟨0,[],[],(a.getD x Ka).leaf&& (b.getD y Ka).leaf⟩).1,dn),(me m ⟨0,[],[],(a.getD x Ka).leaf&& (b.getD y Ka).leaf⟩).2):=by
 have hle:Tc nf a b x y<=nf:=ub (qe _ _) (Ug o.table s);have z:Br nf lo hi m ⟨0,[],[],(a.getD x Ka).leaf&& (b.getD y Ka).leaf⟩:=⟨λ_=>⟨rfl,rfl⟩,λh=>absurd rfl h⟩;obtain⟨p,q,D,u,v⟩:=Ym g.made z;have r:=Gy m ⟨0,[],[],(a.getD x Ka).leaf&& (b.getD y Ka).leaf⟩;rw[Ga rfl]at r;have hlen:m.length<=(me m ⟨0,[],[],(a.getD x Ka).leaf&& (b.getD y Ka).leaf⟩).1.length:=by grind
 have d:(me m ⟨0,[],[],(a.getD x Ka).leaf&& (b.getD y Ka).leaf⟩).1.length<=j->zj nf lo hi a b A B (me m ⟨0,[],[],(a.getD x Ka).leaf&& (b.getD y Ka).leaf⟩).1 x y (me m ⟨0,[],[],(a.getD x Ka).leaf&& (b.getD y Ka).leaf⟩).2:=by
  intro F;have K:Tc nf a b x y=nf:=by omega
  refine⟨q,?_,?_⟩
  ·grind [Rb]
  ·intro c n
   rw[p.reads _ q c n,D]
   have G:(a.getD x Ka).kids=[]:=by
    apply Classical.byContradiction
    intro h;have E:=((o.table x s).inner h).2.2.1
    grind [Tc,Rb]
   have H:(b.getD y Ka).kids=[]:=by
    apply Classical.byContradiction
    intro h;have E:=((t.table y C).inner h).2.2.1
    grind [Tc,Rb]
   rw[o.reads x s c n,t.reads y C c n,Ga G,Ga H]
   rfl
 refine⟨⟨p,λi l k I=>?_,λF=>?_⟩,q,?_,d,⟨u,v⟩,by grind⟩
 ·obtain⟨L,M⟩:=g.Vf i l k I
  grind
 {have e:=g.inv (by grind);refine⟨p,yt z g.made e.from_ (λh=>absurd rfl h),?_⟩;intro i l k' J;show zj nf lo hi a b A B (me m _).1 i l k';rw[v];exact(e.Vf i l k' J).more u}
 grind [Rb]
theorem mZ(ga:Ce nf lo hi a A)(gb:Ce nf lo hi b B){f:Nat}{m:List Dn}{x y:Nat}(hx:x<a.length)(hy:y<b.length)(E:Tc nf a b x y<nf)(hm:m.length<=j)(hch:He (hi (Tc nf a b x y)) (lo (Tc nf a b x y)) C)
  (J:(a.getD x Ka).kids≠[]->(a.getD x Ka).fact=(Tc nf a b x y:Nat)->∀c∈(a.getD x Ka).Sb,c∈lo (Tc nf a b x y)::C)
  (K:(b.getD y Ka).kids≠[]->(b.getD y Ka).fact=(Tc nf a b x y:Nat)->∀c∈(b.getD y Ka).Sb,c∈lo (Tc nf a b x y)::C)
  {r:(List Dn×Mf)×List Int} (hr:UB nf lo hi a b A B j f m x y (lo (Tc nf a b x y)::C) r):
  QB nf lo hi a b A B j (f+1) m x y (((Ob r.1.1 (Tc nf a b x y) (lo (Tc nf a b x y)::C) r.2).1,((x,y),(Ob r.1.1 (Tc nf a b x y) (lo (Tc nf a b x y)::C) r.2).2)::r.1.2),(Ob r.1.1 (Tc nf a b x y) (lo (Tc nf a b x y)::C) r.2).2):=by
 obtain⟨D,Q,R,⟨u,k4⟩,k5⟩:=hr;obtain⟨⟨l,V⟩,W⟩:=r;simp only at D Q R k4 k5;obtain⟨h,g,rfl⟩:∃h g,W=h::g:=by cases W with|nil=>simp at Q|cons p q=>grind
 have P:g.length=C.length:=by grind
 have o:∀k∈h::g,0<=k/\k.toNat<l.length/\Tc nf a b x y<Rb nf (l.getD k.toNat Ka):=by
  grind [List.mem_iff_getElem,Gd]
 have I:=bk D.made E (lo (Tc nf a b x y)) h C g P hch o;have O:=Hy l (Tc nf a b x y) (lo (Tc nf a b x y)::C) (h::g);have GF:=rL m;obtain⟨S,T,⟨w,q3⟩,U,_⟩:=I;have hlen:l.length<=(Ob l (Tc nf a b x y) (lo (Tc nf a b x y)::C) (h::g)).1.length:=by grind
 have F:(Ob l (Tc nf a b x y) (lo (Tc nf a b x y)::C) (h::g)).1.length<=j->zj nf lo hi a b A B (Ob l (Tc nf a b x y) (lo (Tc nf a b x y)::C) (h::g)).1 x y (Ob l (Tc nf a b x y) (lo (Tc nf a b x y)::C) (h::g)).2:=λG=>⟨T,U,Nw ga gb hx hy D.made E h C g P hch o J K (λd hj c fc=>((R d hj).2.2.2 ja).Lp c fc)⟩
 refine⟨⟨S,?_,?_⟩,T,U,F,⟨u++w,by grind⟩,?_⟩
 ·intro s t k' e
  show k'<(Ob l _ _ (h::g)).1.length/\_<=Rb nf ((Ob l _ _ (h::g)).1.getD k' Ka)
  have e:List.lookup _ (((x,y),(Ob l _ _ (h::g)).2)::V)=some k':=e;rw[Ab]at e;by_cases z:(s,t)=(x,y)
  ·grind
  ·have:((s,t)==(x,y))=false:=by grind
   rw[this]at e;obtain⟨p1,p2⟩:=D.Vf s t k' e
   grind
 ·intro G
  have G:(Ob l _ _ (h::g)).1.length<=j:=G;have v:=D.inv ja;have n:=F G;refine⟨S,?_,?_⟩
  ·show ∀k,k<(Ob l _ _ (h::g)).1.length->_
   have i:=n.Lp;unfold Ob at i⊢;simp only[]at i⊢
   split
   {exact v.from_}
   ·next hne=>
    rw[if_neg hne]at i;refine yt ?_ D.made v.from_ (λ_=>⟨x,y,ja,rfl,i⟩);have L:(C.zip g).map _=C:=List.map_fst_zip ja;have M:(C.zip g).map _=g:=List.map_snd_zip ja;have H:=Zm (C.zip g) h;refine⟨λz=>by simp at z,λ_=>⟨rfl,Xb _,by simp_all,?_,by simp[H],?_,Mp _ _,?_⟩⟩
    {intro z;simp_all}
    {have:=Kj _ h _ (by rw[L];exact hch);simpa using this}
    {intro k hm;(rcases List.mem_cons.1 hm with hm|hm);{rw[hm];simpa using o h (Wa ..)};{have N:=Np (C.zip g) h k hm;rw[M]at N;simpa using o k (Pa _ N)}}
  {intro s t k' e;show zj nf lo hi a b A B (Ob l _ _ (h::g)).1 s t k';have e:List.lookup _ (((x,y),(Ob l _ _ (h::g)).2)::V)=some k':=e;rw[Ab]at e;by_cases z:(s,t)=(x,y);{rw[z]at e;simp only[beq_self_eq_true]at e;injection z with X Y;subst X Y;injection e with Z;subst Z;exact n};{(have:((s,t)==(x,y))=false:=by simpa using z);rw[this]at e;rw[q3];exact(v.Vf s t k' e).more w}}
 {show sj (Ob l _ _ (h::g)).1<=_;omega}
theorem CF(p:Ce nf lo hi a A)(u:Ce nf lo hi b B){S:Nat->Nat->List Int}
  (z:∀x y,x<a.length->y<b.length->Tc nf a b x y<nf->∃l,S x y=lo (Tc nf a b x y)::l/\He (hi (Tc nf a b x y)) (lo (Tc nf a b x y)) l/\
   ((a.getD x Ka).kids≠[]->(a.getD x Ka).fact=(Tc nf a b x y:Nat)->∀c∈(a.getD x Ka).Sb,c∈lo (Tc nf a b x y)::l)/\
   ((b.getD y Ka).kids≠[]->(b.getD y Ka).fact=(Tc nf a b x y:Nat)->∀c∈(b.getD y Ka).Sb,c∈lo (Tc nf a b x y)::l)):
  ∀(f:Nat) (m:List Dn) (dn:Mf) (x y:Nat),QA nf lo hi a b A B j m dn->x<a.length->y<b.length->nf-Tc nf a b x y<f->QB nf lo hi a b A B j f m x y (ei nf a b S j f m dn x y):=by
 intro f
 induction f with
 | zero=>omega
 | succ f E=>
  intro m dn x y n o t C;unfold ei;cases i:dn.lookup (x,y)with
  | some k=>{obtain⟨F,G⟩:=n.Vf x y k i;exact⟨n,F,G,λw=>(n.inv w).Vf x y k i,⟨[],Aa⟩,by grind⟩}
  | none=>
   dsimp only
   by_cases h:Tc nf a b x y=nf\/j<m.length
   ·grind [S6]
   {rw[if_neg h];have hle:Tc nf a b x y<=nf:=ub (qe _ _) (Ug p.table o);(have e:Tc nf a b x y<nf:=ja);obtain⟨l,g,hch,r,s⟩:=z x y o t e;have v:=Tu p u E o t e C (m:=m) (S x y) [] ((m,dn),[]) ⟨n,rfl,λd D=>absurd D (Od d),⟨[],Aa⟩,by grind⟩;rw[Tb,g]at v;have q:=mZ p u o t e ja hch r s v;rw[g];exact q}
end
open Go.RowKit
def yp(p:Nat×Nat):Ea:=.agg #[pa (p.1:Int),pa (p.2:Int)]
theorem GM:∃i,prog.info? 3=some i:=info_of_underlying Tryz.underlying3
theorem Iq:prog.plainKey 3=true:=by kernel_rfl
theorem IM:prog.cellsOf 3=1:=by kernel_rfl
theorem JM(w:Ca)(d:Nat)(p q:Nat×Nat):(Op.equalIn (d+1+1) 195 (yp p) (yp q)).run prog w=.ok (p==q) w:=by
 obtain⟨i,hi⟩:=GM;obtain⟨x,y⟩:=p;obtain⟨a,b⟩:=q
 show(Op.equalIn _ 195 (.agg #[.int _ x,.int _ y]) (.agg #[.int _ a,.int _ b])).run _ w=_
 have j:(part 3 #[Value.int _ x,pa y] 0).run _ w=.ok (pa x) w:=run_part_plain w Iq rfl;have e:(part 3 #[Value.int .i64 x,.int _ y] 1).run _ w=.ok (pa y) w:=run_part_plain w Iq rfl;have k:(part 3 #[Value.int _ a,pa b] 0).run _ w=.ok (pa a) w:=run_part_plain w Iq rfl;have f:(part 3 #[Value.int .i64 a,.int _ b] 1).run _ w=.ok (pa b) w:=run_part_plain w Iq rfl;have h:(Op.equalIn _ 3 _ _).run _ w=.ok (x==(a:Int)) w:=run_equalIn_int w d 3 .i64 _ _ _ Tryz.underlying3;have c:(Op.equalIn _ 3 _ _).run _ w=.ok (y==(b:Int)) w:=run_equalIn_int w d 3 .i64 _ _ _ Tryz.underlying3;rw[run_equalIn_array w _ _ _ Tryz.underlying195 hi,IM,show List.range 2=[0,1]from rfl]
 have r:((x,y)==(a,b))=((x==(a:Int))&& (y==(b:Int))):=by
  show((x==a)&& (y==b))=_
  congr 1
  {rw[Rc,Pc,Pc];omega}
  {rw[Rc,Pc,Pc];omega}
 rw[r];simp only[Op.eqItems,Sem.run_bind,Nat.one_mul,j,k,h,Result.andThen_ok];cases l:((x:Int)==(a:Int))with| false=>simp| true=>{cases g:((y:Int)==(b:Int))with| false=>rw[g]at c;simp[e,f,c]| true=>rw[g]at c;simp[e,f,c]}
theorem sL(w:Ca)(p q:Nat×Nat):(Op.equal 195 (yp p) (yp q)).run prog w=.ok (p==q) w:=JM w _ p q
theorem Iy(w:Ca)(e:Bool)(p:Nat×Nat):(Instr.checkKey e 10000 195 (yp p)).run prog w=.ok () w:=by kernel_rfl
theorem LM(p:Nat×Nat):Instr.sameBits 10000 (yp p) (yp p)=true:=by
 unfold yp;simp[Instr.sameBits]
section
variable {ν : Type} {ev : ν -> Ea}
theorem Jy(w:Ca)(k:Nat×Nat):∀(l:List ((Nat×Nat)×ν)) (b:List MapEntry) (i:Nat),b.map (λe=>(e.key,e.val))=l.map (λp=>(yp p.1,ev p.2))->l.lookup k=none->(Instr.findAsking 195 (yp k) b i).run prog w=.ok none w
 | [],[],_,_,_=>by simp[Instr.findAsking]
 | (a,x)::l,e::b,i,h,d=>by{simp at h;obtain⟨⟨g,m⟩,j⟩:=h;rw[Ab]at d;cases c:k==a with| true=>grind| false=>{rw[c]at d;have f:=sL w k a;rw[c]at f;simp[Instr.findAsking,g,f,Jy w k l b _ j d]}}
 | [],e::b,_,h,_=>by cases h
 | (a,x)::l,[],_,h,_=>by cases h
theorem Ky(w:Ca)(k:Nat×Nat)(v x:ν):∀(l:List ((Nat×Nat)×ν)) (b:List MapEntry) (i:Nat),b.map (λe=>(e.key,e.val))=l.map (λp=>(yp p.1,ev p.2))->l.lookup k=some x->
  ∃j,j<b.length/\(Instr.findAsking 195 (yp k) b i).run prog w=.ok (some (i+j,ev x)) w/\(b[j]?.map (·.key))=some (yp k)/\
   (b.modify j λe=>{e with key:=yp k,val:=ev v}).map (λe=>(e.key,e.val))=(ins l k v).map (λp=>(yp p.1,ev p.2))
 | [],[],_,_,h=>by cases h
 | (a,y)::l,e::b,i,h,f=>by
  simp at h;obtain⟨⟨g,n⟩,m⟩:=h;rw[Ab]at f;have d:=sL w k a;cases c:k==a with
  | true=>{rw[c]at f d;(obtain rfl:y=x:=by grind);(obtain rfl:k=a:=by grind);refine⟨0,Aa,?_,by simp[g],?_⟩;{simp[Instr.findAsking,g,d,n]};{simp[ins,m]}}
  | false=>
   rw[c]at f d;obtain⟨j,q,o,r,s⟩:=Ky w k v x l b (i+1) m f;refine⟨j+1,by grind,?_,by grind,?_⟩
   {simp[Instr.findAsking,g,d,o];omega}
   grind [ins]
 | [],e::b,_,h,_=>by cases h
 | (a,y)::l,[],_,h,_=>by cases h
theorem find_eq(w:Ca)(x:Ea)(a:List MapEntry):(Instr.findKey 195 x a).run prog w=(Instr.findAsking 195 x a).run prog w:=by
 cases a with| nil=>simp[Instr.findKey,Instr.findNow,Instr.findAsking]| cons e a=>simp[Instr.findKey,Instr.findNow,Instr.sameNow]
variable {T E : TypeId}
theorem AM(n:prog.underlying T=some (.map 195 E)){z:Ea}(o:∀w,(zeroValue E).run prog w=.ok z w){w:Ca}{b:Nat}{l:List ((Nat×Nat)×ν)}(h:Wb yp ev w b l)(k:Nat×Nat):
  (Instr.lookup T (.map (some b)) (yp k) true).run prog w=.ok (match l.lookup k with|some x=>.tuple #[ev x,.bool true] | none=>.tuple #[z,.bool false]) w:=by
 obtain⟨d,c,f,g⟩:=h;have i:=λe=>Iy w e k
 cases m:l.lookup k with
 | none=>{have a:(Instr.findKey 195 (yp k) d.toList).run prog w=.ok none w:=by{rw[find_eq];exact Jy w k l _ 0 g m};simp[Instr.lookup,run_underlying n,Tg f,i,a,o]}
 | some x=>
  obtain⟨j,_,p,_,_⟩:=Ky w k x x l _ 0 g m
  have a:(Instr.findKey 195 (yp k) d.toList).run prog w=.ok (some (j,ev x)) w:=by
   grind [find_eq]
  simp[Instr.lookup,run_underlying n,Tg f,i,a]
theorem gJ(s:prog.underlying T=some (.map 195 E)){w:Ca}{b:Nat}{l:List ((Nat×Nat)×ν)}(h:Wb yp ev w b l)(k:Nat×Nat)(v:ν):
  ∃m,(Instr.mapUpdate T (.map (some b)) (yp k) (ev v)).run prog w=.ok () m/\Wb yp ev m b (ins l k v)/\Bq b w m:=by
 have hlt:=h.lt;obtain⟨d,c,g,n⟩:=h;have o:=λe=>Iy w e k
 have put:∀(es':Array MapEntry) (f:Nat),es'.toList.map (λe=>(e.key,e.val))=(ins l k v).map (λp=>(yp p.1,ev p.2))->
   Wb yp ev {w with heap:=w.heap.setIfInBounds b (.map es' f)} b _/\Bq b w {w with heap:=w.heap.setIfInBounds b (.map es' f)}:=λes' f t=>
  ⟨⟨es',f,by simp[hlt],t⟩,⟨rfl,rfl,rfl,Aa,λj u=>by grind⟩⟩
 cases r:l.lookup k with
 | none=>{have i:(Instr.findKey 195 (yp k) d.toList).run prog w=.ok none w:=by{rw[find_eq];exact Jy w k l _ 0 n r};refine⟨_,?_,put (d.push {key:=yp k,val:=ev v,born:=c}) (c+1) (by grind [Il])⟩;simp[Instr.mapUpdate,run_underlying s,Tg g,qo g,o,i]}
 | some x=>
  obtain⟨j,u,z,q,y⟩:=Ky w k v x l _ 0 n r
  have i:(Instr.findKey 195 (yp k) d.toList).run prog w=.ok (some (j,ev x)) w:=by
   grind [find_eq]
  have a:(d[j]?.map (·.key))=some (yp k):=by grind
  refine⟨_,?_,put (d.modify j λe=>{e with key:=yp k,val:=ev v}) c (by grind)⟩;have hst:(Instr.keyThatStays (yp k) (yp k)).run prog w=.ok (yp k) w:=by simp[Instr.keyThatStays,LM]
  simp[Instr.mapUpdate,run_underlying s,Tg g,qo g,o,i,a,hst]
end
section
theorem bC{ν:Type}(k:Nat×Nat)(v:ν)(j:Nat×Nat):∀l:List ((Nat×Nat)×ν),(ins l k v).lookup j=if j=k then some v else l.lookup j
 | []=>by
  grind [ins]
 | (a,x)::l=>by{rw[ins];by_cases c:k=a;{subst c;rw[Ga Aa,Ab,Ab];by_cases h:j=k;{subst h;simp};{(have:(j==k)=false:=by simpa using h);rw[this,if_neg h]}};{(have d:(k==a)=false:=by simpa using c);rw[d,if_neg Aa,Ab,Ab,bC];by_cases h:j=a;{subst h;(have b:¬j=k:=λe=>c e.symm);simp[b]};{(have:(j==a)=false:=by simpa using h);rw[this]}}}
theorem NM{W:Ca}{b:Nat}{l:List ((Nat×Nat)×Int)}(h:Wb yp (Value.int .i64) W b l):∀o,W.heap[b]? =some o->fi o=false:=by
 obtain⟨e,c,d,_⟩:=h;intro o a;rw[d]at a;cases a;rfl
theorem PU{W:Ca}{b:Nat}{l:List ((Nat×Nat)×Int)}(h:Wb yp (Value.int .i64) W j l){a:Array Ea}{t:TypeId}{z:Nat×Nat}(f:W.heap[b]? =some (.cells a t z)):b≠j:=by
 rintro rfl;obtain⟨d,c,e,_⟩:=h
 grind
structure BU (w0 : Ca) (K PA PB PD : Nat) (d : List Fa) (ta tb : List Dn) (va vb vd : Ea) : Prop where
 mv:qb w0 (K+1) 110 #[Ma K]
 dv:qb w0 (K+3) 193 #[.map (some (K+2))]
 bv:qb w0 (K+4) 194 #[.func (.func 112) #[] #[Ma (K+3),Ma PA,Ma PB,Ma PD,.pointer (some ⟨K+1,0,none⟩),Ma (K+4)]]
 ab:qb w0 PA 55 #[va]
 bb:qb w0 PB 55 #[vb]
 db:qb w0 PD 24 #[vd]
 lta:PA<K
 ltb:PB<K
 ltd:PD<K
 ga:Sa br 4 w0 K ta va
 gb:Sa br 4 w0 K tb vb
 dom:Sa Jk 4 w0 K d vd
 Cq:Jh K w0
 size:K+5<=w0.heap.size
structure Dq (w0 : Ca) (K : Nat) (S : List Nat) (m : List Dn) (dn : Mf) (W : Ca) : Prop where
 Hj:re K [] w0 W
 is:Zh W K K S m
 own:W.cell? (Ja K 1)≠some (.map (some (K+2)))
 Vf:∃mp,Wb yp (Value.int .i64) W (K+2) mp/\∀k,mp.lookup k=(dn.lookup k).map (λ(n:Nat)=>(n:Int))
variable {w0 W W' : Ca} {K : Nat} {S S' : List Nat} {m m' : List Dn} {dn : Mf}
theorem Dq.Pd(h:Dq w0 K S m dn W){b:Nat}{t:TypeId}{a:Array Ea}(c:qb w0 b t a)(d:(t==104)=false/\(t==114)=false):qb W b t a:=
 h.Hj.keep b _ c (.inr ⟨by grind [fi],Aa⟩)
theorem Dq.size(h:Dq w0 K S m dn W):w0.heap.size<=W.heap.size:=h.Hj.size
theorem Dq.lt(h:Dq w0 K S m dn W):K<W.heap.size:=by obtain⟨_,⟨v,b,c,a,_⟩,_⟩:=h.is;exact a.lt
theorem Dq.step(h:Dq w0 K S m dn W)(hs:Ly K K W W')(f:Zh W' K K S m'):Dq w0 K S m' dn W':=by
 obtain⟨g,⟨a,c,b,d⟩,e⟩:=h.Vf;obtain⟨i,j⟩:=hs.k _ a c b h.own;exact⟨h.Hj.trans hs.s,f,j,g,⟨a,c,i,d⟩,e⟩
theorem Dq.below(h:Dq w0 K S m dn W)(a:Da W.heap.size W W'):Dq w0 K S m dn W':=
 h.step (Ly.jc a h.lt) (h.is.below a ja)
theorem Dq.less(h:Dq w0 K S m dn W)(hs:∀k∈S',k∈S):Dq w0 K S' m dn W:=⟨h.Hj,h.is.less hs,h.own,h.Vf⟩
theorem Dq.Ey(h:Dq w0 K S m dn W){q:List ((Nat×Nat)×Int)}(n:∀k,q.lookup k=(dn.lookup k).map (λ(j:Nat)=>(j:Int))){key:Nat×Nat}(b:Bq (K+2) W W')(E:Wb yp (Value.int .i64) W' (K+2) (ins q key (j:Int)))
  (l:Wb yp (Value.int .i64) W (K+2) q):Dq w0 K S m ((key,j)::dn) W'/\re K [] W W':=by
 have a:=NM l;have o:re K [] W W':=re.wo b ⟨ja,.inr a⟩;have p:re K S W W':=o.more Aa;obtain⟨f,⟨v,G,J,t,u,B,C,d⟩,hlen⟩:=h.is;have hne:K≠K+2:=by omega
 have e:qb W' K 114 _:=(b.block K hne).trans t;refine⟨⟨h.Hj.trans o,⟨f,⟨v,G,J,e,lh u (λg M=>b.block g ?_),B,λx F=>(C x F).step p,?_⟩,hlen⟩,?_,_,E,?_⟩,o⟩
 {rintro rfl;(rcases u.2 with⟨rfl,_⟩|⟨L,cap,w,rfl,_,D,_⟩);all_goals grind [Value.ownBlock,PU]}
 {(rcases d with d|⟨r,s,y,z⟩);{exact .inl d};{refine .inr ⟨r,s,y,?_⟩;obtain⟨A,c,H,I⟩:=z;refine⟨A,c,(b.block r ?_).trans H,I⟩;rintro rfl;exact h.own (by rw[t.cell,s];rfl)}}
 {rw[b.cell hne];exact h.own}
 {intro k;rw[bC,Ab];by_cases i:k=key;{subst i;simp};{(have:(k==key)=false:=by simpa using i);rw[this,if_neg i];exact n k}}
theorem Dq.Zx{n:Nat}{d t:Ea}{A:List Ea}(h:Dq w0 K (Mg d++S) m dn W)(B:K+5<=w0.heap.size)(y:W.ownsRow j 3 1 d n A)(i:w0.heap.size<=j)(r:W.grownBy W' d.ownBlock){g:Nat}(C:t.ownBlock=some g)(q:d.ownBlock=some g\/g=W.heap.size):
  Dq w0 K (Mg t++S) m dn W'/\re K (Mg d) W W':=by
 have v:=Yh y;have a:re K (Mg d) W W':=re.bn r λb e=>⟨by grind,.inl (by grind [Mg])⟩
 have l:∀b o,W.heap[b]? =some o->fi o=false->b<W.heap.size->W'.heap[b]? =some o:=λb o f u p=>by
  refine(r.block b p λe=>?_).trans f
  grind [fi]
 have s:Mg t=[g]:=by grind [Mg]
 refine⟨⟨?_,?_,?_,?_⟩,a⟩
 ·refine((h.Hj.more Aa).trans a).less λb x hlt=>?_
  grind [Mg]
 ·rw[s]
  rcases q with e|e
  {(have:Mg d=[g]:=by grind [Mg]);rw[<-this];exact h.is.keep (a.more λb i=>Hg _ i) l}
  ·refine(h.is.fresh (k:=g) ja (a.more λb i=>Hg _ i) l).less λk l=>?_
   grind
 {(have:=r.block K h.lt λe=>by grind);rw[World.cell?_of_block this];exact h.own}
 {obtain⟨z,⟨w,c,f,u⟩,p⟩:=h.Vf;exact⟨z,⟨w,c,l _ _ f rfl (zf f),u⟩,p⟩}
end
def JF(d:List Fa)(n:Dn):Int:=if n.kids=[]then(d.length:Int)else n.fact
theorem ND(n:Dn)(d:List Fa)(ac f a:Option Addr)(g h b:Nat)(w:Ca):
  Db 113 #[.agg #[pa n.fact,.slice ac n.Sb.length g,.slice f n.kids.length h,.bool n.leaf],.agg #[.slice a d.length b]] w λe t=>e=.returned (pa (JF d n))/\Da w.heap.size w t:=by
 have c:Da _ w ((w.alloc (.cells #[pa n.fact,.slice ac n.Sb.length g,.slice f n.kids.length h,.bool n.leaf] 104)).alloc (.cells #[.slice a d.length b] 24)):=((za _ _).alloc (wa _) _).alloc Aa _;have k:qb ((w.alloc _).alloc (.cells #[.slice a d.length b] 24)) _ 104 _:=(qb.new w 104 #[pa n.fact,.slice ac n.Sb.length g,.slice f n.kids.length h,.bool n.leaf]).alloc _
 have r:qb ((w.alloc (.cells #[pa n.fact,.slice ac n.Sb.length g,.slice f n.kids.length h,.bool n.leaf] 104)).alloc (.cells #[.slice a d.length b] 24)) (w.heap.size+1) 24 #[.slice a d.length b]:=by{have q:=qb.new (w.alloc (.cells #[pa n.fact,.slice ac n.Sb.length g,.slice f n.kids.length h,.bool n.leaf] 104)) 24 #[.slice a d.length b];rw[Ia]at q;exact q}
 obtain⟨W,s⟩:∃W,((w.alloc (.cells #[pa n.fact,.slice ac n.Sb.length g,.slice f n.kids.length h,.bool n.leaf] 104)).alloc (.cells #[.slice a d.length b] 24))=W:=⟨_,rfl⟩;rw[s]at c k r;have p:=la s;have j:=la c;have u:=k.cell 0;have x2:=k.cell 2;have v:=r.cell 0;clear s c k r;by_cases i:n.kids=[]
 {(have l:n.kids.length=0:=by rw[i];rfl);have m:=la (show JF d n=(d.length:Int) by unfold JF;rw[Ga i]);rw[l];rw[l]at x2 p;clear i l;go_enter func113,ntmps113;go_upto_region 1 with(fail);rw[p.o];go_wp2;go_ret;exact⟨by rw[m.o];rfl,j.o⟩}
 {have m:=la (show JF d n=n.fact by unfold JF;rw[if_neg i]);(have l:((n.kids.length:Int)==0)=false:=by simpa using i);clear i;go_enter func113,ntmps113;go_upto_region 1 with(fail);rw[p.o];go_wp2;go_ret;exact⟨by rw[m.o];rfl,j.o⟩}
theorem step_eq{t:List Dn}{i:Nat}{v:Int}(b:j<t.length)(a:(t.getD j Ka).kids≠[]->(t.getD j Ka).kids.length=(t.getD j Ka).Sb.length+1/\∀k∈(t.getD j Ka).kids,0<=k):
  ((oe t j i v:Nat):Int)=if t[j].kids≠[]/\t[j].fact=(i:Int)then t[j].kids.getD (Ie t[j].Sb v) 0 else(j:Int):=by
 grind [oe,rh,List.getElem_mem]
theorem QF(t:List Dn)(x i:Nat)(v:Int)(ag:Option Addr)(E:Nat)(w:Ca)(B:Nat)(hB:B<=w.heap.size)(hg:Sa br 4 w B t (.slice ag t.length E))(hx:x<t.length)
  (p:(t.getD x Ka).kids≠[]->(t.getD x Ka).kids.length=(t.getD x Ka).Sb.length+1/\∀k∈(t.getD x Ka).kids,0<=k):
  Db 115 #[.agg #[.slice ag t.length E],pa (x:Int),pa (i:Int),pa v] w λe c=>e=.returned (pa ((oe t x i v:Nat):Int))/\Da w.heap.size w c:=by
 have D:=step_eq (v:=v) (i:=i) hx p;rw[Gd _ _ _ hx]at p;obtain⟨_,_,e,l1,l2,_⟩:=Sa.shape hg;cases e
 unfold maxLen at l2;obtain⟨u,go,rfl,hgB,vc,vk,n0,n1,n2,n3,C,m⟩:=hg.at x hx;have s:=VF t[x] v vc vk;obtain⟨ac,g,rfl,_⟩:=Sa.shape C;obtain⟨ak,l,rfl,k1,k2,_⟩:=Sa.shape m;unfold maxLen at k2
 have M:t[x].kids≠[]->∃b d,ak=some ⟨b,d,none⟩/\b<B/\∀(j:Nat) (h:j<t[x].kids.length),w.cell? (Ja b (d+j))=some (pa t[x].kids[j]):=λhne=>by{have S:=List.length_pos_iff.2 hne;obtain⟨b,d,e,hb,_⟩:=Sa.one m 0 S;refine⟨b,d,e,hb,λj hj=>?_⟩;obtain⟨kb',ko',e',_,hc⟩:=Sa.one m j hj;rw[e]at e';(cases e');exact hc}
 have a:Hid (Da _ w (w.alloc (.cells #[.slice (fe u go) t.length E] 55))):=(za _ _).alloc (wa _) _;have HK:Hid (qb _ w.heap.size 55 #[.slice (fe u go) t.length E]):=qb.new _ _ _;have P:((w.alloc (.cells #[.slice (fe u go) t.length E] 55))).heap.size=w.heap.size+1:=by simp
 obtain⟨W,hW⟩:∃W,(w.alloc (.cells #[.slice (fe u go) t.length E] 55))=W:=⟨_,rfl⟩;rw[hW]at a HK P;have Y:=la hW;have x0:=HK.o.cell 0;have m0:=(a.o.cell (by show u<w.heap.size;omega)).trans n0;have m1:=(a.o.cell (by show u<w.heap.size;omega)).trans n1;have m2:=(a.o.cell (by show u<w.heap.size;omega)).trans n2;have m3:=(a.o.cell (by show u<w.heap.size;omega)).trans n3;have FF:x<(t.length:Int):=by omega
 have U:=la C;have V:=la m;have H:=la p;have I:=la M;obtain⟨R,hR⟩:∃R:Int,(oe t x i v:Nat)=R:=⟨_,rfl⟩;rw[hR]at D⊢;have f:=la D;clear hg n0 n1 n2 n3 C m p M hW hR D;generalize t[x]=n at*
 by_cases r:n.kids=[]
 {(have S:n.kids.length=0:=by rw[r];rfl);have J:=la (show R=(x:Int) by rw[f.o,if_neg (λh=>h.1 r)]);rw[S]at m2;clear r S f s k1;go_enter func115,ntmps115;go_upto_region 1 with(fail);rw[Y.o];go_wp2;go_ret;exact⟨by rw[J.o];rfl,a.o.trans (((za _ _).alloc (wa _) _).mono ja)⟩}
 ·have h00:=List.length_pos_iff.2 r
  by_cases F:n.fact=i
  ·obtain⟨hlen,O⟩:=H.o r
   obtain⟨b,d,rfl,pX,L⟩:=I.o r;have EO:Ie n.Sb v<n.kids.length:=by have:=fk n.Sb v;omega
   have N:=XF hlen v;have J:=la (show R=n.kids[Ie n.Sb v] by rw[f.o,Ga ⟨r,F⟩,Gd]);have hf0:(n.fact==i)=true:=by simpa using F
   have y:=L _ EO;generalize Ie _ v=G at*
   have EI:=(a.o.cell (by show b<w.heap.size;omega)).trans y;have HX:Hid (qb _ W.heap.size 104 #[pa n.fact,.slice ac n.Sb.length g,.slice (fe b d) n.kids.length l,.bool n.leaf]):=qb.new _ _ _;have Q:((W.alloc (.cells #[pa n.fact,.slice ac n.Sb.length g,.slice (fe b d) n.kids.length l,.bool n.leaf] 104))).heap.size=W.heap.size+1:=by simp
   have A:Hid (Da _ W (W.alloc (.cells #[pa n.fact,.slice ac n.Sb.length g,.slice (fe b d) n.kids.length l,.bool n.leaf] 104))):=(za _ _).alloc (wa _) _
   have HN:Hid (∀W',Hid (Da (W.heap.size+1) (W.alloc (.cells #[pa n.fact,.slice ac n.Sb.length g,.slice (fe b d) n.kids.length l,.bool n.leaf] 104)) W')->Db 51 #[.agg #[pa n.fact,.slice ac n.Sb.length g,.slice (fe b d) n.kids.length l,.bool n.leaf],pa v] W' λe c=>e=.returned (pa (G:Int))/\Hid (Da W'.heap.size W' c)):=λW' hw=>by{have K:=(a.o.trans (A.o.mono ja)).trans (hw.o.mono ja);have q:=s W' B (by have:=hw.o.size;omega) (IntsIn.below (K.mono hB) U.o) (IntsIn.below (K.mono hB) V.o);rw[N]at q;exact q}
   have X:Hid (∀c,Hid (Da (W.heap.size+1) (W.alloc (.cells #[pa n.fact,.slice ac n.Sb.length g,.slice (fe b d) n.kids.length l,.bool n.leaf] 104)) c)->(c.cell? (Ya W.heap.size)=some (pa n.fact)/\c.cell? (Ja W.heap.size 1)=some (.slice ac n.Sb.length g)/\c.cell? (Ja W.heap.size 2)=some (.slice (fe b d) n.kids.length l)/\c.cell? (Ja W.heap.size 3)=some (.bool n.leaf)/\c.cell? (Ja b (d+G))=some (pa n.kids[G]))/\Hid (Da (W.heap.size+1) (W.alloc (.cells #[pa n.fact,.slice ac n.Sb.length g,.slice (fe b d) n.kids.length l,.bool n.leaf] 104)) c)):=by{intro c hw;have z:=HX.o.below (by rw[Q];exact hw.o);exact⟨⟨z.cell 0,z.cell 1,z.cell 2,z.cell 3,((A.o.trans (hw.o.mono ja)).cell (by show b<W.heap.size;omega)).trans EI⟩,hw⟩}
   have Z:Hid (Da (W.heap.size+1) _ ((W.alloc (.cells #[pa n.fact,.slice ac n.Sb.length g,.slice (fe b d) n.kids.length l,.bool n.leaf] 104))).drew):=(za _ _).drew;have amo:G<(n.kids.length:Int):=by omega
   clear r f s F hlen O L N y I H P Q;go_enter func115,ntmps115;go_upto_region 1 with(fail);rw[Y.o];go_upto_region 3 with(fail)
   go_region_held3 (λc=>(c.cell? (Ya W.heap.size)=some (pa n.fact)/\c.cell? (Ja W.heap.size 1)=some (.slice ac n.Sb.length g)/\c.cell? (Ja W.heap.size 2)=some (.slice (fe b d) n.kids.length l)/\c.cell? (Ja W.heap.size 3)=some (.bool n.leaf)/\c.cell? (Ja b (d+G))=some (pa n.kids[G]))/\Hid (Da (W.heap.size+1) (W.alloc (.cells #[pa n.fact,.slice ac n.Sb.length g,.slice (fe b d) n.kids.length l,.bool n.leaf] 104)) c))
    (exact X.o _ La)
    ((go_at_call 51;refine(HN.o _ La).mono ?_;rintro e w8 ⟨rfl,T⟩;have K6:Hid _:=Z.o.trans (T.o.mono Aa)))
   go_split_ands;go_wp2;go_ret;exact⟨by rw[J.o];rfl,(a.o.trans (A.o.mono a.o.size)).trans (K6.o.mono (by have:=a.o.size;omega))⟩
  {have J:=la (show R=(x:Int) by rw[f.o,if_neg (λh=>F h.2)]);(have hf0:(n.fact==i)=false:=by simpa using F);clear r f s F;go_enter func115,ntmps115;go_upto_region 1 with(fail);rw[Y.o];go_wp2;go_ret;exact⟨by rw[J.o];rfl,a.o.trans (((za _ _).alloc (wa _) _).mono ja)⟩}
end Go.Proofs.YtdipkbobalnilaaGreatDoor
