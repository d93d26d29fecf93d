/- Plain core of chapter 11: any table of proper nodes without doubles is good: its reading, with fuel. No program. -/
import Derived.Test.YtdipkbobalnilaaGreatDoorAl
import Derived.BigQuiet
namespace Go.Proofs.YtdipkbobalnilaaGreatDoor
variable{j:Nat}{Z:Int}{C:List Int}{Q:List Nat}{g:Nat->Int}
section
structure Dn where
 fact:Int
 Sb:List Int
 kids:List Int
 leaf:Bool
deriving DecidableEq
variable{T:List Dn}
instance : Inhabited Dn := ⟨⟨0, [], [], false⟩⟩
theorem Gd{a:Type}(l:List a)(i:Nat)(d:a)(h:i<l.length):l.getD i d=l[i]:=by
 grind
def Ie(a:List Int)(v:Int):Nat:=a.findIdx λc=>decide (v<c)
def rh(n:Dn)(v:Int):Int:=n.kids.getD (Ie n.Sb v) 0
def He(hi:Int):Int->List Int->Prop
 | _,[]=>True
 | lo,c::l=>lo<c/\c<=hi/\He hi c l
def Dx{c:Type}:List c->Prop
 | a::b::l=>a≠b/\Dx (b::l)
 | _=>True
theorem Bv(v:Int):Ie [] v=0:=rfl
theorem ni{v:Int}(h:v<Z):Ie (Z::C) v=0:=by grind [Ie]
theorem sh{v:Int}(h:Z<=v):Ie (Z::C) v=Ie C v+1:=by
 grind [Ie]
theorem Ni{hi lo:Int}:∀ {l:List Int},He hi lo l->Ie l lo=0
 | [],_=>rfl
 | _::_,h=>ni h.1
theorem fk(l:List Int)(v:Int):Ie l v<=l.length:=List.findIdx_le_length
theorem Wl{w:Type}(z:w){hi:Int}:∀(l e:List Int) (lo:Int) (k k':List w),lo<=hi->He hi lo l->He hi lo e->k.length=l.length+1->k'.length=e.length+1->Dx k->Dx k'->
  (∀v,lo<=v->v<=hi->k.getD (Ie l v) z=k'.getD (Ie e v) z)->l=e/\k=k'
 | l,e,lo,k,k',r,p,d,u,j,q,ha',h=>by
  obtain⟨a,k,rfl⟩:∃a m,k=a::m:=by cases k with|nil=>simp at u|cons a m=>grind
  obtain⟨x,k',rfl⟩:∃a m,k'=a::m:=by cases k' with|nil=>simp at j|cons a m=>grind
  have t:=h lo (xg _) r;rw[Ni p,Ni d]at t;subst t;cases l with
  | nil=>
   have:k=[]:=by grind
   subst this;cases e with
   | nil=>
    grind
   | cons o e=>{exfalso;(obtain⟨s,k',rfl⟩:∃b m,k'=b::m:=by cases k' with|nil=>simp at j|cons a m=>grind);have g:=h o (by have:=d.1;omega) d.2.1;rw[Bv,sh ja,Ni d.2.2]at g;exact ha'.1 (by grind)}
  | cons c l=>
   obtain⟨b,k,rfl⟩:∃b m,k=b::m:=by cases k with|nil=>simp at u|cons a m=>grind
   have y:=p.1;have hch:=p.2.1;have i:=p.2.2;cases e with
   | nil=>{exfalso;have g:=h c ja hch;rw[Bv,sh ja,Ni i]at g;exact q.1 (by grind)}
   | cons o e=>
    obtain⟨s,k',rfl⟩:∃b m,k'=b::m:=by cases k' with|nil=>simp at j|cons a m=>grind
    have hc':=d.1;have n:=d.2.1;have f:=d.2.2;rcases Int.lt_trichotomy c o with hlt|heq|hgt
    {exfalso;have g:=h c ja hch;rw[ni hlt,sh ja,Ni i]at g;exact q.1 (by grind)}
    ·subst heq
     have A:=Wl z l e c (b::k) (s::k') hch i f (by grind) (by grind) q.2 ha'.2 (by
      grind [sh])
     grind
    {exfalso;have g:=h o ja n;rw[ni hgt,sh ja,Ni f]at g;exact ha'.1 (by grind)}
termination_by l => l.length
def Rb(nf:Nat)(n:Dn):Nat:=if n.kids=[]then nf else n.fact.toNat
structure Gq (nf : Nat) (lo hi : Nat -> Int) (len : Nat) (rk : Nat -> Nat) (n : Dn) : Prop where
 leaf:n.kids=[]->n.fact=0/\n.Sb=[]
 inner:n.kids≠[]->n.leaf=false/\0<=n.fact/\n.fact.toNat<nf/\n.Sb≠[]/\n.kids.length=n.Sb.length+1/\He (hi n.fact.toNat) (lo n.fact.toNat) n.Sb/\Dx n.kids/\
  ∀k∈n.kids,0<=k/\k.toNat<len/\n.fact.toNat<rk k.toNat
def od(nf:Nat)(lo hi:Nat->Int)(c:Nat->Int):Prop:=∀i,i<nf->lo i<=c i/\c i<=hi i
def om(c:Nat->Int)(i:Nat)(v:Int):Nat->Int:=λj=>if j=i then v else c j
def Lg(nf:Nat)(lo hi:Nat->Int)(t:List Dn):Prop:=∀k,k<t.length->Gq nf lo hi t.length (λj=>Rb nf (t.getD j Ka)) (t.getD k Ka)
def aq(nf:Nat)(lo hi:Nat->Int)(t:List Dn)(M:Nat->(Nat->Int)->Bool):Prop:=
 ∀k,k<t.length->∀c,od nf lo hi c->M k c=if(t.getD k Ka).kids=[]then(t.getD k Ka).leaf else M (rh (t.getD k Ka) (c (t.getD k Ka).fact.toNat)).toNat c
variable {nf : Nat} {lo hi : Nat -> Int} {t : List Dn} {M : Nat -> (Nat -> Int)-> Bool}
theorem mh{b:Nat->Nat}{n:Dn}(a:Gq nf lo hi j b n)(h:n.kids≠[])(v:Int):rh n v∈n.kids:=by
 have c:=(a.inner h).2.2.2.2.1
 grind [fk,rh]
theorem Ug(a:Lg nf lo hi t)(b:j<t.length):Rb nf (t.getD j Ka)<=nf:=by
 unfold Rb
 split
 {omega}
 {next h=>exact Dh ((a j b).inner h).2.2.1}
theorem JJ(g:Lg nf lo hi t)(e:aq nf lo hi t M):∀(N k:Nat),k<t.length->nf-Rb nf (t.getD k Ka)<=N->∀c a,od nf lo hi c->od nf lo hi a->
  (∀j,Rb nf (t.getD k Ka)<=j->j<nf->c j=a j)->M k c=M k a:=by
 intro N
 induction N with
 | zero=>
  intro k b l c a f d m;rw[e k b c f,e k b a d];by_cases h:(t.getD k Ka).kids=[]
  ·grind
  ·have o:=((g k b).inner h).2.2.1
   grind [Rb]
 | succ N q=>
  intro k b l c a f d m;rw[e k b c f,e k b a d];by_cases h:(t.getD k Ka).kids=[]
  ·grind
  ·rw[if_neg h,if_neg h]
   have i:=(g k b).inner h;have n:Rb nf (t.getD k Ka)=(t.getD k Ka).fact.toNat:=by grind [Rb]
   rw[n]at l m;have p:=i.2.2.2.2.2.2.2 _ (mh (g k b) h (a (t.getD k Ka).fact.toNat))
   grind
theorem Mi(b:od nf lo hi g)(d:lo j<=Z)(e:Z<=hi j):od nf lo hi (om g j Z):=by
 intro a c;unfold om;by_cases h:a=j
 ·grind
 {rw[if_neg h];exact b a c}
theorem mj(a:Lg nf lo hi t)(f:aq nf lo hi t M)(b:j<t.length)(h:(t.getD j Ka).kids≠[])
  (g:lo (t.getD j Ka).fact.toNat<=Z) (i:Z<=hi (t.getD j Ka).fact.toNat) {c:Nat->Int} (d:od nf lo hi c):
  M (rh (t.getD j Ka) Z).toNat c=M j (om c (t.getD j Ka).fact.toNat Z):=by
 have e:=Mi d g i;have k:=((a j b).inner h).2.2.2.2.2.2.2 _ (mh (a j b) h Z);rw[f j b _ e,if_neg h];have l:om c (t.getD j Ka).fact.toNat Z (t.getD j Ka).fact.toNat=Z:=by grind [om]
 rw[l];apply JJ a f _ _ k.2.1 (wa _) _ _ d e
 grind [om]
theorem oz(f:Lg nf lo hi t)(e:aq nf lo hi t M)(h:j<t.length){i:Nat}(g:i<Rb nf (t.getD j Ka))
  (b:lo i<=Z) (d:Z<=hi i) {c:Nat->Int} (a:od nf lo hi c):M j (om c i Z)=M j c:=by
 apply JJ f e _ _ h (wa _) _ _ (Mi a b d) a
 grind [om]
theorem cq{t:List Dn}(c:t.Nodup){y:Nat}(a:j<t.length)(b:y<t.length)(h:t.getD j Ka=t.getD y Ka):j=y:=by
 grind [List.pairwise_iff_getElem]
theorem pz(d:Lg nf lo hi t)(q:aq nf lo hi t M)(hd:∀i,i<nf->lo i<=hi i){x y:Nat}
  (s:∀g k,g<t.length->k<t.length->(nf-Rb nf (t.getD g Ka))+(nf-Rb nf (t.getD k Ka))<j->(∀c,od nf lo hi c->M g c=M k c)->g=k)
  (m:x<t.length) (p:y<t.length) (w:(nf-Rb nf (t.getD x Ka))+(nf-Rb nf (t.getD y Ka))<=j) (h:∀c,od nf lo hi c->M x c=M y c)
  (z:Rb nf (t.getD x Ka)<Rb nf (t.getD y Ka)):False:=by
 have hy':=Ug d p
 have b:(t.getD x Ka).kids≠[]:=by
  grind [Rb]
 have r:Rb nf (t.getD x Ka)=(t.getD x Ka).fact.toNat:=by grind [Rb]
 have a:=(d x m).inner b;have l:=hd _ a.2.2.1
 have key:∀v,lo (t.getD x Ka).fact.toNat<=v->v<=hi (t.getD x Ka).fact.toNat->rh (t.getD x Ka) v=y:=by
  intro v e f;have o:=a.2.2.2.2.2.2.2 _ (mh (d x m) b v);have:=Ug d o.2.1
  have u:=s _ y o.2.1 p ja (by
   intro c n
   rw[mj d q m b e f n,h _ (Mi n e f)]
   grind [oz])
  omega
 have:=Wl 0 _ [] _ _ [(y:Int)] l a.2.2.2.2.2.1 trivial a.2.2.2.2.1 rfl a.2.2.2.2.2.2.1 trivial (by
  intro v e f
  exact key v e f)
 grind
theorem DZ(k:Lg nf lo hi t)(w:aq nf lo hi t M)(G:t.Nodup)(hd:∀i,i<nf->lo i<=hi i):∀(N x y:Nat),x<t.length->y<t.length->
  (nf-Rb nf (t.getD x Ka))+(nf-Rb nf (t.getD y Ka))<N->(∀c,od nf lo hi c->M x c=M y c)->x=y:=by
 intro N
 induction N with
 | zero=>omega
 | succ N F=>
  intro x y p q T h;rcases Xg (Rb nf (t.getD x Ka)) (Rb nf (t.getD y Ka))with hr|hr|hr
  ·grind [pz]
  ·by_cases f:(t.getD x Ka).kids=[]
   ·by_cases d:(t.getD y Ka).kids=[]
    {(have r:od nf lo hi lo:=λi A=>⟨xg _,hd i A⟩);have l:=h lo r;rw[w x p _ r,w y q _ r,Ga f,Ga d]at l;have C:=(k x p).leaf f;have D:=(k y q).leaf d;refine cq G p q ?_;revert l f d C D;generalize t.getD x Ka=n;generalize t.getD y Ka=m;intro l s E R S;(cases n;cases m);simp_all}
    ·exfalso
     have:=((k y q).inner d).2.2.1
     grind [Rb]
   ·by_cases d:(t.getD y Ka).kids=[]
    ·exfalso
     have:=((k x p).inner f).2.2.1
     grind [Rb]
    ·have j:=(k x p).inner f
     have o:=(k y q).inner d
     have H:(t.getD x Ka).fact.toNat=(t.getD y Ka).fact.toNat:=by
      grind [Rb]
     have z:(t.getD x Ka).fact=(t.getD y Ka).fact:=by omega
     have L:Rb nf (t.getD x Ka)=(t.getD x Ka).fact.toNat:=by grind [Rb]
     have B:=hd _ j.2.2.1
     have key:∀v,lo (t.getD x Ka).fact.toNat<=v->v<=hi (t.getD x Ka).fact.toNat->rh (t.getD x Ka) v=rh (t.getD y Ka) v:=by
      intro v l s;have J:=j.2.2.2.2.2.2.2 _ (mh (k x p) f v);have K:=o.2.2.2.2.2.2.2 _ (mh (k y q) d v)
      have E:=F _ _ J.2.1 K.2.1 ja (by
       intro c u
       rw[mj k w p f l s u,mj k w q d (by grind) (by grind) u,h _ (Mi u l s),H])
      omega
     have O:=Wl 0 _ _ _ _ _ B j.2.2.2.2.2.1 (by grind) j.2.2.2.2.1 o.2.2.2.2.1 j.2.2.2.2.2.2.1 o.2.2.2.2.2.2.1 (by
      intro v l s
      exact key v l s)
     refine cq G p q ?_;have I:=j.1.trans o.1.symm;revert O I z;generalize t.getD x Ka=n;generalize t.getD y Ka=m;intro l s E;cases n;cases m
     simp_all
  {exact(pz k w hd (λP Q a b e g=>F P Q a b e g) q p ja (λc u=>(h c u).symm) hr).elim}
end
variable{T:List Dn}
section
variable {nf : Nat} {lo hi : Nat -> Int}
def pj(nf:Nat)(lo hi:Nat->Int)(M:Nat->(Nat->Int)->Bool)(k:Nat):{c:Nat->Int // od nf lo hi c}->Bool:=λc=>M k c.1
theorem uk{M a:Nat->(Nat->Int)->Bool}{y:Nat}:pj nf lo hi M j=pj nf lo hi a y↔∀c,od nf lo hi c->M j c=a y c:=
 ⟨λh c b=>congrFun h ⟨c,b⟩,λh=>funext λc=>h c.1 c.2⟩
structure Ce (nf : Nat) (lo hi : Nat -> Int) (t : List Dn) (M : Nat -> (Nat -> Int)-> Bool) : Prop where
 table:Lg nf lo hi t
 reads:aq nf lo hi t M
 nodup:t.Nodup
 dom:∀i,i<nf->lo i<=hi i
theorem Ce.one{t:List Dn}{M:Nat->(Nat->Int)->Bool}(g:Ce nf lo hi t M){y:Nat}(a:j<t.length)(b:y<t.length)(h:∀c,od nf lo hi c->M j c=M y c):j=y:=
 DZ g.table g.reads g.nodup g.dom _ j y a b (Nat.lt_succ_self _) h
theorem Mt{t:List Dn}{M:Nat->(Nat->Int)->Bool}(g:Ce nf lo hi t M):∀(l:List Int),(∀k∈l,0<=k/\k.toNat<t.length)->Dx l->Dx (l.map λk=>pj nf lo hi M k.toNat)
 | [],_,_=>trivial
 | [_],_,_=>trivial
 | a::b::l,h,c=>by{have d:=h a (Wa ..);have e:=h b (Pa _ (Wa ..));refine⟨?_,Mt g _ (λk i=>h k (Pa _ i)) c.2⟩;intro f;have:=g.one d.2 e.2 (uk.1 f);exact c.1 ja}
theorem zG{a b:Type}(f:a->b)(l:List a)(i:Nat)(z:a):(l.map f).getD i (f z)=f (l.getD i z):=by
 grind
theorem dq{b c:Type}(f:b->c)(l:List b)(i:Nat)(z:c)(a:b)(h:i<l.length):(l.map f).getD i z=f (l.getD i a):=by
 grind
theorem RJ{t:List Dn}{M d:Nat->(Nat->Int)->Bool}(g:Ce nf lo hi t M)(i:Ce nf lo hi T d){y:Nat}(o:j<t.length)(p:y<T.length)(h:∀c,od nf lo hi c->M j c=d y c)
  (r:Rb nf (t.getD j Ka)<Rb nf (T.getD y Ka)):False:=by
 have hy':=Ug i.table p
 have b:(t.getD j Ka).kids≠[]:=by
  grind [Rb]
 have q:Rb nf (t.getD j Ka)=(t.getD j Ka).fact.toNat:=by grind [Rb]
 have a:=(g.table j o).inner b;have n:=g.dom _ a.2.2.1;have e:=λk e=>a.2.2.2.2.2.2.2 k e
 have:=Wl _ _ [] _ _ [pj nf lo hi d y] n a.2.2.2.2.2.1 trivial (by grind) rfl
  (Mt g _ (λk h=>⟨(e k h).1,(e k h).2.1⟩) a.2.2.2.2.2.2.1) trivial (by
  intro v l m
  rw[zG]
  show pj nf lo hi M (rh _ v).toNat=pj nf lo hi d y
  refine uk.2 λc f=>?_
  rw[mj g.table g.reads o b l m f,h _ (Mi f l m)]
  exact oz i.table i.reads p ja l m f)
 grind
theorem GX{t:List Dn}{M o:Nat->(Nat->Int)->Bool}(g:Ce nf lo hi t M)(e:Ce nf lo hi T o){y:Nat}(m:j<t.length)(n:y<T.length)(h:∀c,od nf lo hi c->M j c=o y c):
  (t.getD j Ka).fact=(T.getD y Ka).fact/\(t.getD j Ka).Sb=(T.getD y Ka).Sb/\(t.getD j Ka).leaf=(T.getD y Ka).leaf/\
  ((t.getD j Ka).kids.map λk=>pj nf lo hi M k.toNat)=((T.getD y Ka).kids.map λk=>pj nf lo hi o k.toNat):=by
 have F:Rb nf (t.getD j Ka)=Rb nf (T.getD y Ka):=by
  grind [RJ]
 by_cases b:(t.getD j Ka).kids=[]
 ·by_cases a:(T.getD y Ka).kids=[]
  ·have f:od nf lo hi lo:=λi r=>⟨xg _,g.dom i r⟩
   have p:=h lo f;rw[g.reads j m _ f,e.reads y n _ f,Ga b,Ga a]at p;have D:=(g.table j m).leaf b;have E:=(e.table y n).leaf a
   grind
  ·exfalso
   have:=((e.table y n).inner a).2.2.1
   grind [Rb]
 ·by_cases a:(T.getD y Ka).kids=[]
  ·exfalso
   have:=((g.table j m).inner b).2.2.1
   grind [Rb]
  ·have d:=(g.table j m).inner b
   have l:=(e.table y n).inner a
   have B:(t.getD j Ka).fact.toNat=(T.getD y Ka).fact.toNat:=by
    grind [Rb]
   have C:(t.getD j Ka).fact=(T.getD y Ka).fact:=by omega
   have u:=g.dom _ d.2.2.1;have x:=λk s=>d.2.2.2.2.2.2.2 k s
   have A:=λk s=>l.2.2.2.2.2.2.2 k s
   let z:{c:Nat->Int // od nf lo hi c}->Bool:=λ_=>false
   have G:=Wl z _ (T.getD y Ka).Sb _ _ _ u d.2.2.2.2.2.1 (by grind)
    (by grind) (by grind) (Mt g _ (λk h=>⟨(x k h).1,(x k h).2.1⟩) d.2.2.2.2.2.2.1) (Mt e _ (λk h=>⟨(A k h).1,(A k h).2.1⟩) l.2.2.2.2.2.2.1) (by
    intro v p w
    have H:=fk (t.getD j Ka).Sb v
    have I:=fk (T.getD y Ka).Sb v
    rw[dq _ _ _ _ 0 ja,dq _ _ _ _ 0 ja]
    show pj nf lo hi M (rh _ v).toNat=pj nf lo hi o (rh _ v).toNat
    refine uk.2 λc q=>?_
    rw[mj g.table g.reads m b p w q,mj e.table e.reads n a (by grind) (by grind) q,h _ (Mi q p w),B])
   grind
def Mc(t:List Dn):Nat->List Nat->Nat->List Nat
 | 0,o,_=>o
 | f+1,o,i=>if i∈o then o else((t.getD i Ka).kids).foldl (λo k=>Mc t f o k.toNat) (o++[i])
def ue(t:List Dn)(o:List Nat):List Dn:=o.map λk=>⟨(t.getD k Ka).fact,(t.getD k Ka).Sb,(t.getD k Ka).kids.map λx=>((o.idxOf x.toNat:Nat):Int),(t.getD k Ka).leaf⟩
def Es(nf:Nat)(lo hi:Nat->Int)(t c:List Dn)(M b:Nat->(Nat->Int)->Bool)(o a:List Nat):Prop:=
 (∀x∈o,x<t.length)/\(∀y∈a,y<c.length)/\o.map (pj nf lo hi M)=a.map (pj nf lo hi b)
theorem Ev{t l:List Dn}{M k:Nat->(Nat->Int)->Bool}(g:Ce nf lo hi t M)(m:Ce nf lo hi l k){x y:Nat}(i:x<t.length)(j:y<l.length)(h:pj nf lo hi M x=pj nf lo hi k y):
  ∀ {o o':List Nat},Es nf lo hi t l M k o o'->o.idxOf x=o'.idxOf y/\(x∈o↔y∈o')
 | [],[],_=>⟨rfl,Aa⟩
 | [],_::_,e=>by simp[Es]at e
 | _::_,[],e=>by simp[Es]at e
 | a::o,b::o',e=>by{obtain⟨n,p,f⟩:=e;rw[Eb,Eb,List.cons.injEq]at f;have r:=Ev g m i j h (o:=o) (o':=o') ⟨λx i=>n x (Pa _ i),λy j=>p y (Pa _ j),f.2⟩;have v:=n a (Wa ..);have w:=p b (Wa ..);have q:a=x↔b=y:=by{constructor;{rintro rfl;exact m.one w j (uk.1 (f.1.symm.trans h))};{rintro rfl;exact g.one v i (uk.1 (f.1.trans h.symm))}};refine⟨?_,?_⟩;{rw[zh,zh];by_cases c:a=x;{have d:=q.1 c;simp[c,d]};{(have d:¬b=y:=λh=>c (q.2 h));(have s:(a==x)=false:=by simpa using c);(have u:(b==y)=false:=by simpa using d);rw[s,u,r.1]}};{rw[uf,uf,r.2];constructor;{rintro(h|h);{exact Or.inl ja};{exact Or.inr h}};{rintro(h|h);{exact Or.inl ja};{exact Or.inr h}}}}
theorem AG{t:List Dn}{M e:Nat->(Nat->Int)->Bool}(g:Ce nf lo hi t M)(q:Ce nf lo hi T e):∀(f:Nat) (o d:List Nat) (x y:Nat),x<t.length->y<T.length->pj nf lo hi M x=pj nf lo hi e y->
  Es nf lo hi t T M e o d->Es nf lo hi t T M e (Mc t f o x) (Mc T f d y):=by
 intro f
 induction f with
 | zero=>intro o d x y _ _ _ c;exact c
 | succ f C=>
  intro o d x y u v h c;have s:=Ev g q u v h c;unfold Mc;by_cases A:x∈o
  ·grind
  ·rw[if_neg A,if_neg (λh=>A (s.2.2 h))]
   have r:=(GX g q u v (uk.1 h)).2.2.2
   have n:Es nf lo hi t T M e (o++[x]) (d++[y]):=by
    refine⟨?_,?_,?_⟩
    ·intro z hz
     rcases List.mem_append.1 hz with hz|hz
     {exact c.1 z hz}
     grind
    ·intro z hz
     rcases List.mem_append.1 hz with hz|hz
     {exact c.2.1 z hz}
     grind
    {rw[Pb,Pb,c.2.2];simp[h]}
   have j:=λk i=>(((g.table x u).inner (zd i)).2.2.2.2.2.2.2 k i).2.1
   have m:=λk i=>(((q.table y v).inner (zd i)).2.2.2.2.2.2.2 k i).2.1
   revert r n j m;generalize(t.getD x Ka).kids=l;generalize(T.getD y Ka).kids=w;generalize o++[x]=p;generalize d++[y]=B;intro r n j m
   induction l generalizing w p B with| nil=>{simp_all}| cons a l ihl=>{cases w with| nil=>simp at r| cons b w=>{simp_all}}
theorem SJ{t:List Dn}{M j:Nat->(Nat->Int)->Bool}(g:Ce nf lo hi t M)(n:Ce nf lo hi T j){f:List Nat}(hs:Es nf lo hi t T M j Q f):ue t Q=ue T f:=by
 have hlen:Q.length=f.length:=by
  have:=congrArg List.length hs.2.2
  grind
 unfold ue;refine List.ext_getElem (by grind) ?_;intro i p q;rw[Sd,Sd];rw[Va]at p q;have r:=hs.1 _ (Oa p);have s:=hs.2.1 _ (Oa q)
 have v:pj nf lo hi M Q[i]=pj nf lo hi j f[i]:=by
  have w:(Q.map (pj nf lo hi M))[i]'(by grind)=(f.map (pj nf lo hi j))[i]'(by grind):=by{congr 1;exact hs.2.2}
  grind
 have u:=GX g n r s (uk.1 v);have d:=λk c=>(((g.table _ r).inner (zd c)).2.2.2.2.2.2.2 k c).2.1
 have e:=λk c=>(((n.table _ s).inner (zd c)).2.2.2.2.2.2.2 k c).2.1
 have o:((t.getD Q[i] Ka).kids.map λx=>((Q.idxOf x.toNat):Int))=((T.getD f[i] Ka).kids.map λx=>((f.idxOf x.toNat):Int)):=by
  have h:=u.2.2.2;revert h d e;generalize(t.getD _ Ka).kids=l;generalize(T.getD _ Ka).kids=m;intro d e h
  induction l generalizing m with
  | nil=>{simp_all}
  | cons a l ihl=>
   cases m with
   | nil=>simp at h
   | cons b m=>
    rw[Eb,Eb,List.cons.injEq]at h
    rw[Eb,Eb,(Ev g n (d a (Wa ..)) (e b (Wa ..)) h.1 hs).1,
     ihl m (λk c=>d k (Pa _ c)) (λk c=>e k (Pa _ c)) h.2]
 grind
theorem Ft{t:List Dn}{M a:Nat->(Nat->Int)->Bool}(g:Ce nf lo hi t M)(b:Ce nf lo hi T a){y:Nat}(d:j<t.length)(e:y<T.length)(h:∀c,od nf lo hi c->M j c=a y c)(f:Nat):
  ue t (Mc t f [] j)=ue T (Mc T f [] y):=
 SJ g b (AG g b f [] [] j y d e (uk.2 h) ⟨λ_ h=>by simp at h,λ_ h=>by simp at h,rfl⟩)
end
section
variable {nf : Nat} {lo hi : Nat -> Int}
def BG(c:Nat->Int)(acc:List Bool)(n:Dn):List Bool:=acc++[if n.kids=[]then n.leaf else acc.getD (rh n (c n.fact.toNat)).toNat false]
def S3(t:List Dn)(c:Nat->Int):List Bool:=t.foldl (BG c) []
def qg(t:List Dn)(k:Nat)(c:Nat->Int):Bool:=(S3 t c).getD k false
theorem CG(t:List Dn)(n:Dn)(c:Nat->Int):S3 (t++[n]) c=BG c (S3 t c) n:=by
 grind [S3]
theorem DG{P:List Dn->Prop}(h0:P [])(h1:∀t n,P t->P (t++[n]))(t:List Dn):P t:=by
 have:∀(u t:List Dn),P t->P (t++u):=by
  intro u
  induction u with
  | nil=>grind
  | cons a u ih=>
   grind
 exact this t [] h0
theorem yL(t:List Dn)(c:Nat->Int):(S3 t c).length=t.length:=by
 induction t using DG with| h0=>rfl| h1 t n a=>grind [CG,BG]
theorem kj{b:Type}(l:List b)(a z:b)(h:j<l.length):(l++[a]).getD j z=l.getD j z:=by
 grind
theorem Af{b:Type}(l:List b)(a z:b):(l++[a]).getD l.length z=a:=by
 grind
theorem Fs(t:List Dn)(n:Dn)(c:Nat->Int)(h:j<t.length):qg (t++[n]) j c=qg t j c:=by
 grind [qg,CG,BG,yL]
theorem Bj(t:List Dn)(c:Nat->Int)(h:j<t.length)(u:List Dn):qg (t++u) j c=qg t j c:=by
 induction u using DG with| h0=>grind| h1 u n a=>grind [Fs]
theorem TJ(t:List Dn)(n:Dn)(c:Nat->Int):qg (t++[n]) t.length c=if n.kids=[]then n.leaf else qg t (rh n (c n.fact.toNat)).toNat c:=by
 grind [qg,BG,S3,yL]
structure Made (nf : Nat) (lo hi : Nat -> Int) (t : List Dn) : Prop where
 table:Lg nf lo hi t
 early:∀k,k<t.length->∀x∈(t.getD k Ka).kids,x.toNat<k
 nodup:t.Nodup
theorem Made.nil:Made nf lo hi []:=⟨λk h=>absurd h (Od k),λk h=>absurd h (Od k),Kd⟩
def Br(nf:Nat)(lo hi:Nat->Int)(t:List Dn)(n:Dn):Prop:=Gq nf lo hi t.length (λj=>Rb nf (t.getD j Ka)) n
theorem zC{t:List Dn}{n m:Dn}(h:Br nf lo hi t n):Br nf lo hi (t++[m]) n:=by
 refine⟨h.leaf,λa=>?_⟩;have hi:=h.inner a
 grind
theorem Made.snoc{t:List Dn}(h:Made nf lo hi t){n:Dn}(d:Br nf lo hi t n)(e:n∉t):Made nf lo hi (t++[n]):=by
 refine⟨?_,?_,?_⟩
 {intro k c;rw[Qa]at c;(rcases td k t.length with a|a);{rw[kj _ _ _ a];exact zC (h.table k a)};{(have:k=t.length:=by grind);subst this;rw[Af];exact zC d}}
 {intro k c x b;rw[Qa]at c;(rcases td k t.length with a|a);{rw[kj _ _ _ a]at b;exact h.early k a x b};{(have:k=t.length:=by grind);subst this;rw[Af]at b;exact((d.inner (zd b)).2.2.2.2.2.2.2 x b).2.1}}
 ·rw[Ge]
  refine⟨h.nodup,Aa,?_⟩
  grind
theorem Made.reads{t:List Dn}(h:Made nf lo hi t):aq nf lo hi t (qg t):=by
 intro k d c _
 have g:t=t.take k++[t.getD k Ka]++t.drop (k+1):=by{simp_all}
 have f:(t.take k).length=k:=by grind
 have e:qg t k c=qg (t.take k++[t.getD k Ka]) k c:=by
  grind [Bj]
 have b:=TJ (t.take k) (t.getD k Ka) c;rw[f]at b;rw[e,b];by_cases a:(t.getD k Ka).kids=[]
 ·grind
 ·rw[if_neg a,if_neg a]
  have i:=h.early k d _ (mh (h.table k d) a (c (t.getD k Ka).fact.toNat))
  grind [Bj]
theorem Made.yh{t:List Dn}(h:Made nf lo hi t)(hd:∀i,i<nf->lo i<=hi i):Ce nf lo hi t (qg t):=⟨h.table,h.reads,h.nodup,hd⟩
def me(t:List Dn)(n:Dn):List Dn×Nat:=if n∈t then(t,t.idxOf n)else(t++[n],t.length)
theorem Ym{t:List Dn}(h:Made nf lo hi t){n:Dn}(b:Br nf lo hi t n):Made nf lo hi (me t n).1/\(me t n).2<(me t n).1.length/\(me t n).1.getD (me t n).2 Ka=n/\∃u,(me t n).1=t++u:=by
 unfold me;by_cases a:n∈t
 {rw[Ga a];have c:=Yc a;simp_all}
 {rw[if_neg a];exact⟨h.snoc b a,by grind,Af _ _ _,[n],rfl⟩}
def zi:Int->List (Int×Int)->List Int×List Int
 | _,[]=>([],[])
 | a,(s,k)::l=>if k=a then zi a l else(s::(zi k l).1,k::(zi k l).2)
theorem Zm:∀(l:List (Int×Int)) (a:Int),(zi a l).2.length=(zi a l).1.length
 | [],_=>rfl
 | (s,k)::l,a=>by{unfold zi;(split);{exact Zm l a};{simp[Zm l k]}}
theorem Mp:∀(l:List (Int×Int)) (a:Int),Dx (a::(zi a l).2)
 | [],_=>trivial
 | (s,k)::l,a=>by{unfold zi;(split);{exact Mp l a};{next h=>exact⟨λb=>h b.symm,Mp l k⟩}}
theorem Np:∀(l:List (Int×Int)) (a x:Int),x∈(zi a l).2->x∈l.map Prod.snd
 | [],_,_,h=>by simp[zi]at h
 | (s,k)::l,a,x,h=>by{unfold zi at h;(split at h);{exact Pa _ (Np l a x h)};{(rcases List.mem_cons.1 h with h|h);{rw[h];exact Wa ..};{exact Pa _ (Np l k x h)}}}
theorem UJ:∀ {l:List Int} {a b:Int},a<=b->He Z b l->He Z a l
 | [],_,_,_,_=>trivial
 | _::_,_,_,h,c=>⟨by have:=c.1;omega,c.2⟩
theorem Kj{c:Int}:∀(l:List (Int×Int)) (a b:Int),He c b (l.map Prod.fst)->He c b (zi a l).1
 | [],_,_,_=>trivial
 | (s,k)::l,a,b,h=>by{unfold zi;have d:b<s:=h.1;(split);{exact Kj l a b (UJ ja h.2.2)};{exact⟨h.1,h.2.1,Kj l k s h.2.2⟩}}
theorem BC:∀ {l:List Int} {b v:Int},He Z b l->v<=b->Ie l v=0
 | [],_,_,_,_=>rfl
 | _::_,_,_,h,a=>ni (by have:=h.1;omega)
theorem Fv{c:Int}:∀(l:List (Int×Int)) (a b v:Int),He c b (l.map Prod.fst)->
  (a::(zi a l).2).getD (Ie (zi a l).1 v) 0=(a::l.map Prod.snd).getD (Ie (l.map Prod.fst) v) 0
 | [],_,_,_,_=>rfl
 | (s,k)::l,a,b,v,h=>by
  have e:He c s _:=h.2.2;unfold zi;by_cases d:v<s
  ·rw[Eb,Eb]
   rw[ni d]
   split
   ·next f=>
    rw[BC (Kj l a s e) ja]
    rfl
   {rw[ni d];rfl}
  ·have d:s<=v:=by omega
   rw[Eb,Eb,sh d,mg]
   split
   ·next f=>
    subst f;exact Fv l k s v e
   {rw[sh d,mg];exact Fv l k s v e}
def Ob(t:List Dn)(i:Int)(a kids:List Int):List Dn×Nat:=
 let r:=zi (kids.getD 0 0) (a.tail.zip kids.tail)
 if r.2=[]then(t,(kids.getD 0 0).toNat)else me t ⟨i,r.1,kids.getD 0 0::r.2,false⟩
theorem bk{t:List Dn}(h:Made nf lo hi t)(D:j<nf)(g a:Int)(d b:List Int)(G:b.length=d.length)(F:He (hi j) (lo j) d)
  (s:∀k∈a::b,0<=k/\k.toNat<t.length/\j<Rb nf (t.getD k.toNat Ka)):
  Made nf lo hi (Ob t j (g::d) (a::b)).1/\(Ob t j (g::d) (a::b)).2<(Ob t j (g::d) (a::b)).1.length/\(∃u,(Ob t j (g::d) (a::b)).1=t++u)/\
  j<=Rb nf ((Ob t j (g::d) (a::b)).1.getD (Ob t j (g::d) (a::b)).2 Ka)/\
  ∀c,od nf lo hi c->qg (Ob t j (g::d) (a::b)).1 (Ob t j (g::d) (a::b)).2 c=qg t ((a::b).getD (Ie d (c j)) 0).toNat c:=by
 have x:(d.zip b).map _=d:=List.map_fst_zip ja;have p:(d.zip b).map _=b:=List.map_snd_zip ja;have hch:He (hi j) (lo j) ((d.zip b).map Prod.fst):=by grind
 have f:=λv=>Fv _ a _ v hch
 rw[x,p]at f;have n:=Kj _ a _ hch;have i:=Mp (d.zip b) a;have l:=Zm (d.zip b) a;have e:=Np (d.zip b) a;rw[p]at e;unfold Ob;simp only[List.tail_cons,lg];revert f n i l e;generalize zi a _=r;intro f n i l e;by_cases w:r.2=[]
 {rw[Ga w];have y:=s a (Wa ..);refine⟨h,y.2.1,⟨[],Aa⟩,Dh y.2.2,?_⟩;intro c _;(have q:r.1=[]:=by grind);have m:=f (c j);rw[q,w]at m;rw[<-m];rfl}
 ·rw[if_neg w]
  have hne:r.1≠[]:=by
   grind
  have E:Br nf lo hi t ⟨j,r.1,a::r.2,false⟩:=by{refine⟨λA=>by simp at A,λ_=>⟨rfl,Xb j,by simp_all,hne,by simp[l],by simp_all,i,?_⟩⟩;intro k o;(rcases List.mem_cons.1 o with o|o);{rw[o];simpa using s a (Wa ..)};{simpa using s k (Pa _ (e k o))}}
  obtain⟨q,m,z,u,C⟩:=Ym h E;refine⟨q,m,⟨u,C⟩,?_,?_⟩
  {rw[z];unfold Rb;simp}
  ·intro c B
   rw[q.reads _ m c B,z]
   have A:rh ⟨j,r.1,a::r.2,false⟩ (c (j:Int).toNat)=(a::b).getD (Ie d (c j)) 0:=by
    show(a::r.2).getD (Ie r.1 (c j)) 0=_
    grind
   grind [fk,List.length_cons,List.getElem_mem,Bj]
end
section
variable {nf : Nat} {lo hi : Nat -> Int} {t : List Dn} {M : Nat -> (Nat -> Int)-> Bool}
structure Ti (t : List Dn) (o o' : List Nat) : Prop where
 more:∃u,o'=o++u
 nodup:o'.Nodup
 inside:∀x∈o',x<t.length
 closed:∀y∈o',y∉o->∀k∈(t.getD y Ka).kids,k.toNat∈o'
theorem Ti.mem{a:List Nat}(h:Ti t Q a)(c:j∈Q):j∈a:=by
 obtain⟨u,b⟩:=h.more
 grind
theorem Ti.refl{o:List Nat}(b:o.Nodup)(c:∀x∈o,x<t.length):Ti t o o:=⟨⟨[],Aa⟩,b,c,λ_ h a=>absurd h a⟩
theorem Ti.trans{p q:List Nat}(h:Ti t Q p)(a:Ti t p q):Ti t Q q:=by
 obtain⟨u,f⟩:=h.more;obtain⟨v,g⟩:=a.more;refine⟨⟨u++v,by grind⟩,a.nodup,a.inside,?_⟩;intro y e d k b;by_cases c:y∈p
 {exact a.mem (h.closed y c d k b)}
 {exact a.closed y e c k b}
theorem cn(q:Lg nf lo hi t):∀(f:Nat) (o:List Nat) (x:Nat),x<t.length->nf-Rb nf (t.getD x Ka)<f->o.Nodup->(∀y∈o,y<t.length)->
  Ti t o (Mc t f o x)/\x∈Mc t f o x:=by
 intro f
 induction f with
 | zero=>omega
 | succ f B=>
  intro o x w C F s;unfold Mc;by_cases v:x∈o
  ·grind [Ti.refl]
  ·rw[if_neg v]
   have g:(o++[x]).Nodup:=by
    grind
   have c:∀y∈o++[x],y<t.length:=by
    grind
   have b:∀k∈(t.getD x Ka).kids,k.toNat<t.length/\nf-Rb nf (t.getD k.toNat Ka)<f:=by
    intro k hk;have hne:=zd hk;have r:=(q x w).inner hne
    grind [Rb]
   have key:∀(l:List Int),(∀k∈l,k.toNat<t.length/\nf-Rb nf (t.getD k.toNat Ka)<f)->∀p,p.Nodup->(∀y∈p,y<t.length)->
     Ti t p (l.foldl (λo k=>Mc t f o k.toNat) p)/\∀k∈l,k.toNat∈l.foldl (λo k=>Mc t f o k.toNat) p:=by
    intro l
    induction l with
    | nil=>grind [Ti.refl]
    | cons a l ihl=>
     intro i p m n;have h:=i a (Wa ..);have d:=B p _ h.1 h.2 m n;have j:=ihl (λk hk=>i k (Pa _ hk)) _ d.1.nodup d.1.inside;rw[Nd];refine⟨d.1.trans j.1,?_⟩;intro k hk;rcases List.mem_cons.1 hk with hk|hk
     {rw[hk];exact j.1.mem d.2}
     grind
   have hk:=key _ b _ g c;obtain⟨u,E⟩:=hk.1.more;refine⟨⟨⟨[x]++u,by grind⟩,hk.1.nodup,hk.1.inside,?_⟩,hk.1.mem Aa⟩;intro y z D k e;by_cases A:y=x
   ·grind
   {exact hk.1.closed y z (by grind) k e}
structure RQ (t : List Dn) (o : List Nat) : Prop where
 nodup:o.Nodup
 inside:∀x∈o,x<t.length
 closed:∀y∈o,∀k∈(t.getD y Ka).kids,k.toNat∈o
theorem lj(c:Lg nf lo hi t){f:Nat}(e:j<t.length)(n:nf<f):RQ t (Mc t f [] j)/\∃u,Mc t f [] j=j::u:=by
 have h:=cn c f [] j e ja Kd (λ_ h=>by simp at h);refine⟨⟨h.1.nodup,h.1.inside,λy i=>h.1.closed y i Aa⟩,?_⟩;obtain⟨g,rfl⟩:∃g,f=g+1:=⟨f-1,ja⟩;unfold Mc;rw[if_neg Aa]
 show ∃u,(t.getD j Ka).kids.foldl (λo k=>Mc t g o _) [j]=j::u
 have pre:∀(f:Nat) (o:List Nat) (j:Nat),∃u,Mc t f o j=o++u:=by
  intro f
  induction f with
  | zero=>intro o j;exact⟨[],by simp[Mc]⟩
  | succ f m=>
   intro o j;unfold Mc
   split
   {simp_all}
   ·have key:∀(l:List Int) (p:List Nat),∃u,l.foldl (λo k=>Mc t f o k.toNat) p=p++u:=by
     intro l
     induction l with
     | nil=>simp_all
     | cons a l ihl=>
      intro p;obtain⟨u,b⟩:=m p a.toNat;obtain⟨v,d⟩:=ihl (Mc t f p a.toNat)
      grind
    obtain⟨u,b⟩:=key (t.getD j Ka).kids (o++[j])
    grind
 have key:∀(l:List Int) (p:List Nat),∃u,l.foldl (λo k=>Mc t g o k.toNat) p=p++u:=by
  intro l
  induction l with
  | nil=>simp_all
  | cons a l ihl=>
   intro p;obtain⟨u,b⟩:=pre g p a.toNat;obtain⟨v,d⟩:=ihl (Mc t g p a.toNat)
   grind
 obtain⟨u,b⟩:=key (t.getD j Ka).kids [j];exact⟨u,b⟩
theorem zn(t:List Dn)(o:List Nat):(ue t o).length=o.length:=by grind [ue]
theorem Mq(a:j<Q.length):
  (ue t Q).getD j Ka=⟨(t.getD Q[j] Ka).fact,(t.getD Q[j] Ka).Sb,(t.getD Q[j] Ka).kids.map λx=>((Q.idxOf x.toNat:Nat):Int),(t.getD Q[j] Ka).leaf⟩:=by
 grind [ue]
theorem lN(a:j∈Q):Rb nf ((ue t Q).getD (Q.idxOf j) Ka)=Rb nf (t.getD j Ka):=by
 have h:=Yc a;rw[Mq h,List.getElem_idxOf];unfold Rb
 simp
theorem fV{y:Nat}(b:j∈Q)(_:y∈Q)(h:Q.idxOf j=Q.idxOf y):j=y:=by
 have a:=Yc b;have c:=List.getElem_idxOf a
 grind
theorem zL{f:Int->Int}:∀(l:List Int),(∀a∈l,∀b∈l,f a=f b->a=b)->Dx l->Dx (l.map f)
 | [],_,_=>trivial
 | [_],_,_=>trivial
 | a::b::_,h,c=>⟨λd=>c.1 (h a (Wa ..) b (Pa _ (Wa ..)) d),
   zL _ (λx e y g=>h x (Pa _ e) y (Pa _ g)) c.2⟩
theorem qz{f:Int->Int}:∀ {l k:List Int},(∀a∈l,∀b∈k,f a=f b->a=b)->l.map f=k.map f->l=k
 | [],[],_,_=>rfl
 | [],_::_,_,h=>by simp at h
 | _::_,[],_,h=>by simp at h
 | a::l,b::k,c,h=>by{rw[Eb,Eb,List.cons.injEq]at h;rw[c a (Wa ..) b (Wa ..) h.1,qz (λx d y e=>c x (Pa _ d) y (Pa _ e)) h.2]}
theorem Ho{d i:Type}(f:d->i):∀(l:List d),l.Nodup->(∀x∈l,∀y∈l,f x=f y->x=y)->(l.map f).Nodup
 | [],_,_=>Kd
 | a::l,c,inj=>by{rw[Ah]at c;rw[Eb,Ah];refine⟨?_,Ho f l c.2 λx h y b=>inj x (Pa _ h) y (Pa _ b)⟩;intro g;obtain⟨y,b,e⟩:=List.mem_map.1 g;exact c.1 (inj a (Wa ..) y (Pa _ b) e.symm▸b)}
theorem Kq(g:Ce nf lo hi t M)(o:RQ t Q):Ce nf lo hi (ue t Q) (λk=>M (Q.getD k 0)):=by
 have q:∀x y,x<Q.length->y<Q.length->∀(f:x<Q.length) (s:y<Q.length),∀a∈(t.getD Q[x] Ka).kids,∀b∈(t.getD Q[y] Ka).kids,(Q.idxOf a.toNat:Nat)=((Q.idxOf b.toNat):Int)->a=b:=by{intro x y _ _ f s a p b r l;have E:=o.closed _ (Oa f) a p;have B:=o.closed _ (Oa s) b r;have H:=fV E B ja;have I:=(((g.table _ (o.inside _ (Oa f))).inner (zd p)).2.2.2.2.2.2.2 a p).1;have J:=(((g.table _ (o.inside _ (Oa s))).inner (zd r)).2.2.2.2.2.2.2 b r).1;omega}
 refine⟨?_,?_,?_,g.dom⟩
 ·intro k e
  rw[zn]at e;have f:=o.inside _ (Oa e);have C:=g.table _ f;rw[Mq e];refine⟨λl=>?_,λl=>?_⟩
  {exact C.leaf (by simp_all)}
  ·have hne:(t.getD Q[k] Ka).kids≠[]:=by grind
   have d:=C.inner hne;refine⟨d.1,d.2.1,d.2.2.1,d.2.2.2.1,by grind,d.2.2.2.2.2.1,zL _ (λa p b r l=>q k k e e e e a p b r l) d.2.2.2.2.2.2.1,?_⟩;intro j u;obtain⟨a,p,rfl⟩:=List.mem_map.1 u;have v:=o.closed _ (Oa e) a p;refine⟨ja,?_,?_⟩
   ·grind [zn]
   ·rw[Fc,lN v]
    grind
 ·intro k e c D
  rw[zn]at e;have f:=o.inside _ (Oa e)
  show M _ c=_
  rw[Gd _ _ _ e,Mq e,g.reads _ f c D];by_cases hne:(t.getD Q[k] Ka).kids=[]
  ·grind
  ·have v:=mh (g.table _ f) hne (c (t.getD Q[k] Ka).fact.toNat)
   have F:=o.closed _ (Oa e) _ v;have B:=Yc F;have hlen:=((g.table _ f).inner hne).2.2.2.2.1;have G:=fk (t.getD Q[k] Ka).Sb (c (t.getD Q[k] Ka).fact.toNat)
   have l:rh ⟨(t.getD Q[k] Ka).fact,(t.getD Q[k] Ka).Sb,(t.getD Q[k] Ka).kids.map λx=>(Q.idxOf x.toNat:Nat),(t.getD Q[k] Ka).leaf⟩ (c (t.getD Q[k] Ka).fact.toNat)=
     ((Q.idxOf (rh (t.getD Q[k] Ka) (c (t.getD Q[k] Ka).fact.toNat)).toNat:Nat)):=by
    show((t.getD _ Ka).kids.map λx=>((Q.idxOf x.toNat):Int)).getD (Ie (t.getD _ Ka).Sb _) 0=_
    rw[dq _ _ _ _ 0 ja]
    rfl
   simp_all
 {(unfold ue);apply Ho _ Q o.nodup;intro x f y s l;simp only[Dn.mk.injEq]at l;obtain⟨i,d,rfl⟩:=List.mem_iff_getElem.1 f;obtain⟨j,u,rfl⟩:=List.mem_iff_getElem.1 s;apply cq g.nodup (o.inside _ f) (o.inside _ s);have e:=qz (λa p b r h=>q i j d u d u a p b r h) l.2.2.1;have w:=l.1;have z:=l.2.1;have A:=l.2.2.2;revert e w z A;generalize t.getD _ Ka=n;generalize t.getD _ Ka=m;intro e w z A;cases n;simp_all}
theorem Bs(g:Ce nf lo hi t M){f:Nat}(c:j<t.length)(a:nf<f):
  ue (ue t (Mc t f [] j)) (Mc (ue t (Mc t f [] j)) f [] 0)=ue t (Mc t f [] j):=by
 obtain⟨b,u,e⟩:=lj g.table c a;have d:=Kq g b
 grind [Ft,zn]
end
section
variable {nf : Nat} {lo hi : Nat -> Int} {t : List Dn} {M : Nat -> (Nat -> Int)-> Bool}
def Lt(n:Dn):Dn:=⟨n.fact,n.Sb,n.kids,if n.kids=[]then !n.leaf else n.leaf⟩
def Hd(t:List Dn):List Dn:=t.map Lt
theorem Yp(h:j<t.length):(Hd t).getD j Ka=Lt (t.getD j Ka):=by
 grind [Hd]
theorem mN(n:Dn):Rb nf (Lt n)=Rb nf n:=rfl
theorem SQ{n m:Dn}(h:Lt n=Lt m):n=m:=by
 cases n;cases m
 simp only[Lt,Dn.mk.injEq]at h;obtain⟨a,b,c,d⟩:=h;subst a b c
 split at d<;>simp_all
theorem GQ(g:Ce nf lo hi t M):Ce nf lo hi (Hd t) (λk c=> !M k c):=by
 have e:(Hd t).length=t.length:=by grind [Hd]
 refine⟨?_,?_,?_,g.dom⟩
 ·intro k b
  rw[e]at b;have f:=g.table k b;rw[Yp b];refine⟨λh=>f.leaf h,λh=>?_⟩;have h:(t.getD k Ka).kids≠[]:=h;have a:=f.inner h;refine⟨?_,a.2.1,a.2.2.1,a.2.2.2.1,a.2.2.2.2.1,a.2.2.2.2.2.1,a.2.2.2.2.2.2.1,?_⟩
  ·show(if(t.getD k Ka).kids=[]then !(t.getD k Ka).leaf else(t.getD k Ka).leaf)=false
   grind
  {intro j l;have d:=a.2.2.2.2.2.2.2 j l;refine⟨d.1,ja,?_⟩;rw[Yp d.2.1,mN];exact d.2.2}
 ·intro k b c i
  rw[e]at b;rw[Yp b]
  show(!M k c)=if(t.getD k Ka).kids=[]then(if(t.getD k Ka).kids=[]then !(t.getD k Ka).leaf else(t.getD k Ka).leaf)else !M (rh (t.getD k Ka) (c (t.getD k Ka).fact.toNat)).toNat c
  rw[g.reads k b c i]
  grind
 {exact Ho _ t g.nodup λx _ y _ h=>SQ h}
theorem GJ{t:List Dn}(h:∀k,(t.getD k Ka).kids=(T.getD k Ka).kids):∀(f:Nat) (o:List Nat) (x:Nat),Mc t f o x=Mc T f o x:=by
 intro f
 induction f with
 | zero=>intro o x;rfl
 | succ f a=>
  grind [Mc]
theorem IQ(t:List Dn)(k:Nat):((Hd t).getD k Ka).kids=(t.getD k Ka).kids:=by
 rcases td k t.length with h|h
 {rw[Yp h];rfl}
 grind [Hd]
end
section
variable {nf : Nat} {lo hi : Nat -> Int} {t : List Dn} {M : Nat -> (Nat -> Int)-> Bool}
theorem AL{h:Int}:∀(l:List Int) (b:Int) (i:Nat),He h b l->i<l.length->Ie l (l.getD i 0)=i+1
 | [],_,_,_,hi=>by simp at hi
 | c::l,b,0,a,_=>by{rw[lg,sh ja,Ni a.2.2]}
 | c::l,b,i+1,a,hi=>by{(have d:i<l.length:=by simpa using hi);have e:=AL l c i a.2.2 d;rw[mg];have g:c<=l.getD i 0:=by{(rcases Int.lt_or_le (l.getD i 0) c with f|f);{rw[BC a.2.2 ja]at e;omega};{exact f}};rw[sh g,e]}
theorem rz:∀(l:List Int) (i:Nat) (v:Int),i<l.length->v<l.getD i 0->Ie l v<=i
 | [],_,_,hi,_=>by simp at hi
 | c::l,0,v,_,a=>by grind [ni]
 | c::l,i+1,v,hi,a=>by
  rcases Int.lt_or_le v c with h|h
  ·grind [ni]
  {rw[sh h];exact Nat.succ_le_succ (rz l i v (by grind) (by grind))}
theorem EG{h:Int}:∀(l:List Int) (b:Int) (i:Nat),He h b l->i<l.length->b<l.getD i 0/\l.getD i 0<=h
 | [],_,_,_,hi=>by simp at hi
 | c::l,b,0,a,_=>⟨a.1,a.2.1⟩
 | c::l,b,i+1,a,hi=>by
  have d:=EG l c i a.2.2 (by grind);have e:=a.1
  grind
def nj(n:Dn):Bool:= !n.kids.isEmpty || n.leaf
def Fi(t:List Dn)(n:Dn):Nat:=n.kids.findIdx λk=>nj (t.getD k.toNat Ka)
def Hh(t:List Dn):Nat->Nat->(Nat->Int)->(Nat->Int)×Nat
 | 0,x,c=>(c,x)
 | f+1,x,c=>
  if(t.getD x Ka).kids=[]then(c,x)
  else Hh t f ((t.getD x Ka).kids.getD (Fi t (t.getD x Ka)) 0).toNat
   (if 0<Fi t (t.getD x Ka)then om c (t.getD x Ka).fact.toNat ((t.getD x Ka).Sb.getD (Fi t (t.getD x Ka)-1) 0)else c)
def KQ(nf:Nat)(c e:Nat->Int):Prop:=∃p,p<nf/\c p<e p/\∀j,j<p->c j=e j
theorem Eo{n:Dn}(h:nj n=false):n.kids=[]/\n.leaf=false:=by
 grind [nj]
theorem iz(g:Ce nf lo hi t M)(x:j<t.length)(v:(t.getD j Ka).kids≠[]):Fi t (t.getD j Ka)<(t.getD j Ka).kids.length:=by
 have d:=(g.table j x).inner v
 obtain⟨a,b,l,u⟩:∃a b l,(t.getD j Ka).kids=a::b::l:=by{have i:=d.2.2.2.2.1;cases z:(t.getD j Ka).Sb with| nil=>grind| cons c y=>{cases w:(t.getD j Ka).kids with| nil=>grind| cons a m=>{cases m with| nil=>grind| cons b l=>grind}}}
 unfold Fi;refine List.findIdx_lt_length.2 ?_;have k:=d.2.2.2.2.2.2.2 a (by grind);have o:=d.2.2.2.2.2.2.2 b (by grind);by_cases i:nj (t.getD a.toNat Ka)=true
 ·grind
 ·by_cases r:nj (t.getD b.toNat Ka)=true
  ·grind
  {exfalso;have f:=Eo (Bool.eq_false_iff.2 i);have h:=Eo (Bool.eq_false_iff.2 r);have p:=(g.table _ k.2.1).leaf f.1;have q:=(g.table _ o.2.1).leaf h.1;have s:a.toNat=b.toNat:=by{apply cq g.nodup k.2.1 o.2.1;revert f h p q;generalize t.getD _ Ka=n;generalize t.getD _ Ka=m;intro f h p q;(cases n;cases m);simp_all};have e:=d.2.2.2.2.2.2.1;rw[u]at e;exact e.1 ja}
theorem LQ(g:Ce nf lo hi t M):∀(f x K:Nat) (c:Nat->Int),x<t.length->nf-Rb nf (t.getD x Ka)<f->nj (t.getD x Ka)=true->od nf lo hi c->K<=Rb nf (t.getD x Ka)->(∀j,K<=j->j<nf->c j=lo j)->
  (Hh t f x c).2<t.length/\(t.getD (Hh t f x c).2 Ka).kids=[]/\(t.getD (Hh t f x c).2 Ka).leaf=true/\od nf lo hi (Hh t f x c).1/\M x (Hh t f x c).1=true/\(∀j,j<Rb nf (t.getD x Ka)->(Hh t f x c).1 j=c j)/\
  ∀e,od nf lo hi e->M x e=true->(∀j,j<K->e j=c j)->¬KQ nf e (Hh t f x c).1:=by
 intro f
 induction f with
 | zero=>omega
 | succ f ih=>
  intro x K c C hf W L hK u;unfold Hh;by_cases s:(t.getD x Ka).kids=[]
  ·rw[Ga s]
   have k:(t.getD x Ka).leaf=true:=by
    grind [nj]
   refine⟨C,s,k,L,?_,λ_ _=>rfl,?_⟩
   {rw[g.reads x C c L,Ga s];exact k}
   ·intro e y _ he R
    obtain⟨p,B,n,_⟩:=R;rcases td p K with h2|h2
    ·grind
    ·have:=u p h2 B
     have:=(y p B).1
     grind
  ·rw[if_neg s]
   have r:=(g.table x C).inner s;have hr:Rb nf (t.getD x Ka)=(t.getD x Ka).fact.toNat:=by grind [Rb]
   have q:=iz g C s;have hch:=r.2.2.2.2.2.1;have G:=r.2.2.1
   have l:(t.getD x Ka).kids.getD (Fi t (t.getD x Ka)) 0∈(t.getD x Ka).kids:=by{simp_all}
   have I:=r.2.2.2.2.2.2.2 _ l
   have d:nj (t.getD ((t.getD x Ka).kids.getD (Fi t (t.getD x Ka)) 0).toNat Ka)=true:=by{rw[Gd _ _ _ q];exact List.findIdx_getElem (w:=q)}
   have m:=I.2.2;have J:=Ug g.table I.2.1
   have a:∀j,j<Fi t (t.getD x Ka)->nj (t.getD ((t.getD x Ka).kids.getD j 0).toNat Ka)=false:=by{intro j A;(have n:j<(t.getD x Ka).kids.length:=ja);rw[Gd _ _ _ n];have:=List.not_of_lt_findIdx A;omega}
   revert q l I d m J a;generalize Fi t _=i;intro q l I d m J a
   obtain⟨F,D,Q,S,T,H,hlt,hcv,o⟩:∃F D,(if 0<i then om c (t.getD x Ka).fact.toNat ((t.getD x Ka).Sb.getD (i-1) 0)else c)=D/\lo (t.getD x Ka).fact.toNat<=F/\F<=hi (t.getD x Ka).fact.toNat/\
     Ie (t.getD x Ka).Sb F=i/\(∀v,lo (t.getD x Ka).fact.toNat<=v->v<F->Ie (t.getD x Ka).Sb v<i)/\D (t.getD x Ka).fact.toNat=F/\∀j,j≠(t.getD x Ka).fact.toNat->D j=c j:=by
    by_cases U:0<i
    {(have z:i-1<(t.getD x Ka).Sb.length:=ja);have Z:=EG _ _ _ hch z;refine⟨_,_,Ga U,ja,Z.2,?_,?_,?_,?_⟩;{have:=AL _ _ _ hch z;omega};{intro v _ W;have:=rz _ _ v z W;omega};{unfold om;rw[Ga rfl]};{intro j A;unfold om;rw[if_neg A]}}
    {(have O:i=0:=ja);subst O;refine⟨_,c,if_neg U,ja,g.dom _ G,Ni hch,λv n h2=>ja,u _ ja G,λ_ _=>rfl⟩}
   rw[Q]
   have N:od nf lo hi D:=by{intro j A;by_cases h:j=(t.getD x Ka).fact.toNat;{rw[h,hcv];exact⟨S,T⟩};{rw[o j h];exact L j A}}
   obtain⟨r1,r2,r3,X,r5,E,r7⟩:=ih _ ((t.getD x Ka).fact.toNat+1) D I.2.1 ja d N ja (λj n h2=>by rw[o j ja];exact u j ja h2);refine⟨r1,r2,r3,X,?_,?_,?_⟩
   {rw[g.reads x C _ X,if_neg s,E _ m,hcv];unfold rh;rw[H];exact r5}
   {intro j A;rw[E j ja,o j ja]}
   {intro e y b P R;obtain⟨p,B,n,h2⟩:=R;rw[g.reads x C e y,if_neg s]at b;(rcases Xg p (t.getD x Ka).fact.toNat with h3|h3|h3);{rw[E p ja,o p ja]at n;(rcases td p K with h4|h4);{have:=P p h4;omega};{have:=u p h4 B;have:=(y p B).1;omega}};{subst h3;rw[E _ m,hcv]at n;have h4:=hlt _ (y _ B).1 n;have V:=Eo (a _ h4);have Y:=r.2.2.2.2.2.2.2 _ (mh (g.table x C) s (e (t.getD x Ka).fact.toNat));rw[g.reads _ Y.2.1 e y]at b;unfold rh at b;rw[Ga V.1,V.2]at b;exact Bool.noConfusion b};{have h4:=h2 _ h3;rw[E _ m,hcv]at h4;rw[h4]at b;unfold rh at b;rw[H]at b;refine r7 e y b ?_ ⟨p,B,n,h2⟩;intro j A;rw[h2 j ja,E j ja]}}
end
section
variable {nf : Nat} {lo hi : Nat -> Int} {t : List Dn} {M : Nat -> (Nat -> Int)-> Bool}
theorem Pt:∀(l:List Int) (u v:Int),u<=v->(∀c∈l,¬(u<c/\c<=v))->Ie l u=Ie l v
 | [],_,_,_,_=>rfl
 | c::l,u,v,b,h=>by{have e:=h c (Wa ..);(rcases Int.lt_or_le u c with a|a);{rw[ni a,ni ja]};{rw[sh a,sh ja,Pt l u v b λc d=>h c (Pa _ d)]}}
theorem Vm{h:Int}:∀(l:List Int) (b:Int),He h b l->∀s∈l,b<s/\s<=h
 | [],_,_,_,a=>by simp at a
 | c::l,b,d,s,a=>by{have e:=d.1;(rcases List.mem_cons.1 a with a|a);{rw[a];exact⟨e,d.2.1⟩};{have:=Vm l c d.2.2 s a;omega}}
theorem bz{h:Int}:∀(l:List Int) (b v:Int),He h b l->b<=v->
  (b::l).getD (Ie l v) 0<=v/\b<=(b::l).getD (Ie l v) 0/\∀s∈b::l,s<=v->s<=(b::l).getD (Ie l v) 0
 | [],b,v,_,i=>⟨i,xg _,λs a _=>by simp at a;subst a;exact xg _⟩
 | c::l,b,v,g,i=>by{have j:=g.1;(rcases Int.lt_or_le v c with e|e);{rw[ni e,lg];refine⟨i,ja,λs a d=>?_⟩;(rcases List.mem_cons.1 a with a|a);{rw[a];exact xg _};{(rcases List.mem_cons.1 a with a|a);{omega};{have:=Vm l c g.2.2 s a;omega}}};{rw[sh e,mg];have f:=bz l c v g.2.2 e;refine⟨f.1,by have:=f.2.1;omega,λs a d=>?_⟩;(rcases List.mem_cons.1 a with a|a);{have:=f.2.1;omega};{exact f.2.2 s a d}}}
theorem WJ{a:List Int}{b v:Int}(f:He Z b C)(h:b<=v)(d:∀c∈a,c∈b::C):Ie a ((b::C).getD (Ie C v) 0)=Ie a v:=by
 have e:=bz C b v f h;apply Pt _ _ _ e.1
 intro c g hcc;have:=e.2.2 c (d c g) hcc.2;omega
def oe(t:List Dn)(x i:Nat)(v:Int):Nat:=
 if(t.getD x Ka).kids≠[]/\(t.getD x Ka).fact=(i:Int)then(rh (t.getD x Ka) v).toNat else x
theorem FG(a:Ce nf lo hi t M){i:Nat}(c:j<t.length)(b:od nf lo hi g):M (oe t j i (g i)) g=M j g:=by
 unfold oe
 split
 {next h=>rw[a.reads j c g b,if_neg h.1,h.2,Fc]}
 {rfl}
theorem Li(g:Ce nf lo hi t M){i:Nat}(a:j<t.length)(c:i<nf)(l:i<=Rb nf (t.getD j Ka))(v:Int):oe t j i v<t.length/\i<Rb nf (t.getD (oe t j i v) Ka):=by
 unfold oe
 split
 ·next h=>
  have k:=((g.table j a).inner h.1).2.2.2.2.2.2.2 _ (mh (g.table j a) h.1 v);omega
 ·next h=>
  refine⟨a,?_⟩;rcases td i (Rb nf (t.getD j Ka))with b|b
  {exact b}
  ·exfalso
   have e:i=Rb nf (t.getD j Ka):=by omega
   by_cases d:(t.getD j Ka).kids=[]
   ·grind [Rb]
   ·have f:=((g.table j a).inner d).2.1
    grind [Rb]
theorem IG{i:Nat}{b:Int}{h:Int}(d:He h b C)(e:b<=Z)(a:(t.getD j Ka).kids≠[]->(t.getD j Ka).fact=(i:Int)->∀c∈(t.getD j Ka).Sb,c∈b::C):
  oe t j i ((b::C).getD (Ie C Z) 0)=oe t j i Z:=by
 grind [oe,rh,WJ]
theorem Vw(m:Made nf lo hi T)(f:j<nf)(e:Int)(b d:List Int)(l:d.length=b.length)(h:He (hi j) (lo j) b)
  (i:∀k∈e::d,0<=k/\k.toNat<T.length/\j<Rb nf (T.getD k.toNat Ka)) {F:(Nat->Int)->Bool} {G:Int->(Nat->Int)->Bool}
  (n:∀a,a<(e::d).length->∀c,od nf lo hi c->qg T ((e::d).getD a 0).toNat c=G ((lo j::b).getD a 0) c)
  (hF:∀c,od nf lo hi c->F c=G ((lo j::b).getD (Ie b (c j)) 0) c):
  ∀c,od nf lo hi c->qg (Ob T j (lo j::b) (e::d)).1 (Ob T j (lo j::b) (e::d)).2 c=F c:=by
 intro c g;rw[(bk m f _ e b d l h i).2.2.2.2 c g,hF c g]
 grind [fk]
theorem Nw{a b:List Dn}{A B:Nat->(Nat->Int)->Bool}(u:Ce nf lo hi a A)(w:Ce nf lo hi b B){y:Nat}(z:j<a.length)(C:y<b.length)
  {m:List Dn} (r:Made nf lo hi m) {i:Nat} (h:i<nf) (g:Int) (e f:List Int) (q:f.length=e.length) (o:He (hi i) (lo i) e)
  (p:∀k∈g::f,0<=k/\k.toNat<m.length/\i<Rb nf (m.getD k.toNat Ka))
  (s:(a.getD j Ka).kids≠[]->(a.getD j Ka).fact=(i:Int)->∀c∈(a.getD j Ka).Sb,c∈lo i::e)
  (t:(b.getD y Ka).kids≠[]->(b.getD y Ka).fact=(i:Int)->∀c∈(b.getD y Ka).Sb,c∈lo i::e)
  (n:∀d,d<(g::f).length->∀c,od nf lo hi c->qg m ((g::f).getD d 0).toNat c=(A (oe a j i ((lo i::e).getD d 0)) c&& B (oe b y i ((lo i::e).getD d 0)) c)):
  ∀c,od nf lo hi c->qg (Ob m i (lo i::e) (g::f)).1 (Ob m i (lo i::e) (g::f)).2 c=(A j c&& B y c):=by
 apply Vw r h g e f q o p (G:=λv c=>A (oe a j i v) c&& B (oe b y i v) c) n
 intro c l;have x:=(l i h).1
 grind [IG,FG]
end
section
variable {nf : Nat} {lo hi : Nat -> Int} {a b : List Dn} {A B : Nat -> (Nat -> Int)-> Bool}
abbrev Mf:=List ((Nat×Nat)×Nat)
def Tc(nf:Nat)(a b:List Dn)(x y:Nat):Nat:=min (Rb nf (a.getD x Ka)) (Rb nf (b.getD y Ka))
def ei(nf:Nat)(a b:List Dn)(S:Nat->Nat->List Int)(L:Nat):Nat->List Dn->Mf->Nat->Nat->(List Dn×Mf)×Nat
 | 0,m,c,_,_=>((m,c),0)
 | f+1,m,c,x,y=>
  match c.lookup (x,y)with
  | some k=>((m,c),k)
  | none=>
   if Tc nf a b x y=nf\/L<m.length then
    (((me m ⟨0,[],[],(a.getD x Ka).leaf&& (b.getD y Ka).leaf⟩).1,c),(me m ⟨0,[],[],(a.getD x Ka).leaf&& (b.getD y Ka).leaf⟩).2)
   else
    let r:=(S x y).foldl (λ(d:(List Dn×Mf)×List Int) v=>
     let r:=ei nf a b S L f d.1.1 d.1.2 (oe a x (Tc nf a b x y) v) (oe b y (Tc nf a b x y) v)
     (r.1,d.2++[(r.2:Int)])) ((m,c),[])
    let q:=Ob r.1.1 (Tc nf a b x y) (S x y) r.2
    ((q.1,((x,y),q.2)::r.1.2),q.2)
structure zj (nf : Nat) (lo hi : Nat -> Int) (a b : List Dn) (A B : Nat -> (Nat -> Int)-> Bool) (m : List Dn) (x y k : Nat) : Prop where
 lt:k<m.length
 oo:Tc nf a b x y<=Rb nf (m.getD k Ka)
 Lp:∀c,od nf lo hi c->qg m k c=(A x c&& B y c)
structure RA (nf : Nat) (lo hi : Nat -> Int) (a b : List Dn) (A B : Nat -> (Nat -> Int)-> Bool) (R : Nat -> Nat -> Prop) (m : List Dn) (dn : Mf) : Prop where
 made:Made nf lo hi m
 from_:∀k,k<m.length->(m.getD k Ka).kids≠[]->∃x y,R x y/\(m.getD k Ka).fact=(Tc nf a b x y:Nat)/\∀c,od nf lo hi c->qg m k c=(A x c&& B y c)
 Vf:∀x y k,dn.lookup (x,y)=some k->zj nf lo hi a b A B m x y k
theorem zj.more{y k:Nat}(h:zj nf lo hi a b A B T j y k)(u:List Dn):zj nf lo hi a b A B (T++u) j y k:=by
 have e:(T++u).getD k Ka=T.getD k Ka:=by{rw[Gd _ _ _ (by rw[Qa];have:=h.lt;omega),Gd,wg h.lt]}
 refine⟨by rw[Qa];have:=h.lt;omega,by rw[e];exact h.oo,?_⟩;intro c d;rw[Bj T c h.lt u];exact h.Lp c d
theorem yt{R:Nat->Nat->Prop}{n:Dn}(_ho:Br nf lo hi T n)(_hm:Made nf lo hi T)
  (d:∀k,k<T.length->(T.getD k Ka).kids≠[]->∃x y,R x y/\(T.getD k Ka).fact=(Tc nf a b x y:Nat)/\∀c,od nf lo hi c->qg T k c=(A x c&& B y c))
  (e:n.kids≠[]->∃x y,R x y/\n.fact=(Tc nf a b x y:Nat)/\∀c,od nf lo hi c->qg (me T n).1 (me T n).2 c=(A x c&& B y c)):
  ∀k,k<(me T n).1.length->((me T n).1.getD k Ka).kids≠[]->∃x y,R x y/\((me T n).1.getD k Ka).fact=(Tc nf a b x y:Nat)/\∀c,od nf lo hi c->qg (me T n).1 k c=(A x c&& B y c):=by
 grind [me,Fs]
theorem OU(K:Ce nf lo hi a A)(U:Ce nf lo hi b B){R:Nat->Nat->Prop}{S:Nat->Nat->List Int}
  (W:∀m C,RA nf lo hi a b A B R m C->m.length<=j) (C_:∀x y,R x y->x<a.length/\y<b.length)
  (hRs:∀x y v,R x y->Tc nf a b x y<nf->v∈S x y->R (oe a x (Tc nf a b x y) v) (oe b y (Tc nf a b x y) v))
  (hS:∀x y,R x y->Tc nf a b x y<nf->∃s,S x y=lo (Tc nf a b x y)::s/\He (hi (Tc nf a b x y)) (lo (Tc nf a b x y)) s/\
   ((a.getD x Ka).kids≠[]->(a.getD x Ka).fact=(Tc nf a b x y:Nat)->∀c∈(a.getD x Ka).Sb,c∈lo (Tc nf a b x y)::s)/\
   ((b.getD y Ka).kids≠[]->(b.getD y Ka).fact=(Tc nf a b x y:Nat)->∀c∈(b.getD y Ka).Sb,c∈lo (Tc nf a b x y)::s)):
  ∀(f:Nat) (m:List Dn) (C:Mf) (x y:Nat),RA nf lo hi a b A B R m C->R x y->nf-Tc nf a b x y<f->
  RA nf lo hi a b A B R (ei nf a b S j f m C x y).1.1 (ei nf a b S j f m C x y).1.2/\zj nf lo hi a b A B (ei nf a b S j f m C x y).1.1 x y (ei nf a b S j f m C x y).2/\
  ∃u,(ei nf a b S j f m C x y).1.1=m++u:=by
 intro f
 induction f with
 | zero=>omega
 | succ f ih=>
  intro m C x y I hR hf;have g:=C_ x y hR;unfold ei;cases Yr:C.lookup (x,y)with
  | some k=>exact⟨I,I.Vf x y k Yr,[],Aa⟩
  | none=>
   dsimp only
   have hL:=W m C I;have hle:Tc nf a b x y<=nf:=ub (qe _ _) (Ug K.table g.1);by_cases J:Tc nf a b x y=nf\/j<m.length
   ·rw[Ga J]
    have ho:Br nf lo hi m ⟨0,[],[],(a.getD x Ka).leaf&& (b.getD y Ka).leaf⟩:=⟨λ_=>⟨rfl,rfl⟩,λh=>absurd rfl h⟩;obtain⟨F,Q,h3,u,h4⟩:=Ym I.made ho;refine⟨⟨F,yt ho I.made I.from_ (λh=>absurd rfl h),?_⟩,⟨Q,?_,?_⟩,u,h4⟩
    {intro O P k' M;show zj nf lo hi a b A B (me m _).1 O P k';rw[h4];exact(I.Vf O P k' M).more u}
    ·grind [Rb]
    ·intro c T
     rw[F.reads _ Q c T,h3]
     have ha:(a.getD x Ka).kids=[]:=by
      apply Classical.byContradiction
      intro h;have h5:=((K.table x g.1).inner h).2.2.1
      grind [Tc,Rb]
     have hb:(b.getD y Ka).kids=[]:=by
      apply Classical.byContradiction
      intro h;have h5:=((U.table y g.2).inner h).2.2.1
      grind [Tc,Rb]
     rw[K.reads x g.1 c T,U.reads y g.2 c T,Ga ha,Ga hb]
     rfl
   ·rw[if_neg J]
    have n:Tc nf a b x y<nf:=by omega
    obtain⟨s,V,hch,hsa,hsb⟩:=hS x y hR n;have hRv:=λv=>hRs x y v hR n
    have Y:Tc nf a b x y<=Rb nf _:=qe _ _;have Z:Tc nf a b x y<=Rb nf _:=Zf _ _
    have key:∀(l:List Int),(∀v∈l,v∈S x y)->∀(i:(List Dn×Mf)×List Int) (pre:List Int),RA nf lo hi a b A B R i.1.1 i.1.2->i.2.length=pre.length->
      (∀d,d<i.2.length->0<=i.2.getD d 0/\zj nf lo hi a b A B i.1.1 (oe a x (Tc nf a b x y) (pre.getD d 0)) (oe b y (Tc nf a b x y) (pre.getD d 0)) (i.2.getD d 0).toNat)->
      let r:=l.foldl (λi v=>
       let r:=ei nf a b S j f i.1.1 i.1.2 (oe a x (Tc nf a b x y) v) (oe b y (Tc nf a b x y) v)
       (r.1,i.2++[(r.2:Int)])) i
      RA nf lo hi a b A B R r.1.1 r.1.2/\r.2.length=(pre++l).length/\
      (∀d,d<r.2.length->0<=r.2.getD d 0/\zj nf lo hi a b A B r.1.1 (oe a x (Tc nf a b x y) ((pre++l).getD d 0)) (oe b y (Tc nf a b x y) ((pre++l).getD d 0)) (r.2.getD d 0).toNat)/\∃u,r.1.1=i.1.1++u:=by
     intro l
     induction l with
     | nil=>simp_all
     | cons v l ihl=>
      intro M i pre F Q h3;have hv:=hRv v (M v (Wa ..));have s1:=Li K g.1 n Y v;have s2:=Li U g.2 n Z v
      have gZ:Tc nf a b x y<Tc nf a b (oe a x (Tc nf a b x y) v) (oe b y (Tc nf a b x y) v):=by{show _<min _ _;omega}
      have hr:=ih _ _ _ _ F hv (by
       have:Tc nf a b _ (oe b y (Tc nf a b x y) v)<=nf:=ub (qe _ _) (Ug K.table s1.1)
       omega)
      obtain⟨u,hu⟩:=hr.2.2
      have hn:=ihl (λw hw=>M w (Pa _ hw)) ((ei nf a b S j f _ _ _ _).1,i.2++[((ei nf a b S j f _ _ _ _).2:Int)]) (pre++[v]) hr.1
       (by simp[Q]) (by
        intro d D
        have D:d<(i.2++[((ei nf a b S j f _ _ _ _).2:Int)]).length:=D
        rw[Qa]at D
        rcases td d i.2.length with PO|PO
        {have:=h3 d PO;rw[kj _ _ _ PO,kj _ _ _ ja];refine⟨this.1,?_⟩;show zj nf lo hi a b A B (ei nf a b S j f _ _ _ _).1.1 _ _ _;rw[hu];exact this.2.more u}
        ·have QD:d=i.2.length:=by simp at D;omega
         subst QD
         rw[Af]
         rw[Q,Af]
         exact⟨ja,by exact hr.2.1⟩)
      rw[Nd];rw[Ic]at hn;obtain⟨n1,n2,n3,w,n4⟩:=hn;exact⟨n1,n2,n3,_,by rw[n4];rw[hu,Ic]⟩
    have hk:=key _ (λ_ h=>h) ((m,C),[]) [] I rfl (λd D=>absurd D (Od d));revert hk
    generalize(S x y).foldl (λi v=>
       let r:=ei nf a b S j f _ _ _ _
       (r.1,i.2++[(r.2:Int)])) _=r
    intro hk;obtain⟨N,k2,k3,u,k4⟩:=hk;rw[Tb,V]at k2;simp only[Tb]at k3;rw[V]at k3⊢;obtain⟨⟨rm,rd⟩,rk⟩:=r;simp only at N k2 k3 k4;obtain⟨z,t,rfl⟩:∃z t,rk=z::t:=by cases rk with|nil=>simp at k2|cons p q=>exact⟨p,q,rfl⟩
    have M:t.length=s.length:=by simpa using k2
    have H:∀k∈z::t,0<=k/\k.toNat<rm.length/\Tc nf a b x y<Rb nf (rm.getD k.toNat Ka):=by{intro k hm;obtain⟨d,D,rfl⟩:=List.mem_iff_getElem.1 hm;have F:=k3 d D;rw[Gd _ _ _ D]at F;have s1:=Li K g.1 n Y ((lo (Tc nf a b x y)::s).getD d 0);have s2:=Li U g.2 n Z ((lo (Tc nf a b x y)::s).getD d 0);have Q:=F.2.oo;have h3:Tc nf a b x y<Tc nf a b (oe a x (Tc nf a b x y) ((lo (Tc nf a b x y)::s).getD d 0)) (oe b y (Tc nf a b x y) ((lo (Tc nf a b x y)::s).getD d 0)):=by{show _<min _ _;omega};exact⟨F.1,F.2.lt,ja⟩}
    have WT:=bk N.made n (lo (Tc nf a b x y)) z s t M hch H;have X:=Nw K U g.1 g.2 N.made n z s t M hch H hsa hsb (λd D c T=>(k3 d D).2.Lp c T);obtain⟨q1,q2,⟨w,q3⟩,q4,_⟩:=WT;have E:zj nf lo hi a b A B _ x y _:=⟨q2,q4,X⟩;refine⟨⟨q1,?_,?_⟩,E,_,by rw[q3,k4,Ic]⟩
    ·show ∀k,k<(Ob rm _ _ (z::t)).1.length->_
     have o:=X;unfold Ob at o⊢;simp only[]at o⊢
     split
     {exact N.from_}
     ·next hne=>
      rw[if_neg hne]at o;refine yt ?_ N.made N.from_ (λ_=>⟨x,y,hR,rfl,o⟩);have Un:(s.zip t).map _=s:=List.map_fst_zip ja;have BA:(s.zip t).map _=t:=List.map_snd_zip ja;have L:=Zm (s.zip t) z;refine⟨λG=>by simp at G,λ_=>⟨rfl,Xb _,by simpa using n,?_,by simp[L],?_,Mp _ _,?_⟩⟩
      {intro G;apply hne;have G:(zi z (s.zip t)).1=[]:=G;rw[G]at L;(have:(zi z (s.zip t)).2=[]:=by simpa using L);exact this}
      {have:=Kj _ z _ (by rw[Un];exact hch);simpa using this}
      {intro k hm;(rcases List.mem_cons.1 hm with hm|hm);{rw[hm];simpa using H z (Wa ..)};{have h5:=Np (s.zip t) z k hm;rw[BA]at h5;simpa using H k (Pa _ h5)}}
    {intro O P k' e;show zj nf lo hi a b A B (Ob rm _ _ (z::t)).1 O P k';have e:List.lookup _ (((x,y),(Ob rm _ _ (z::t)).2)::rd)=some k':=e;rw[Ab]at e;by_cases G:(O,P)=(x,y);{rw[G]at e;simp only[beq_self_eq_true]at e;injection G with e1 e2;subst e1 e2;injection e with e3;subst e3;exact E};{(have:((O,P)==(x,y))=false:=by simpa using G);rw[this]at e;rw[q3];exact(N.Vf O P k' e).more w}}
end
section
variable {nf : Nat} {lo hi : Nat -> Int} {σ κ : Type} [BEq κ] [LawfulBEq κ]
def mi(nf:Nat)(b:σ->Option Bool)(S:Nat->σ->List Int)(c:Nat->σ->Int->σ)(key:Nat->σ->κ)(L:Nat):Nat->List Dn->List (κ×Nat)->Nat->σ->(List Dn×List (κ×Nat))×Nat
 | 0,m,a,_,_=>((m,a),0)
 | f+1,m,a,i,s=>
  match b s with
  | some e=>(((me m ⟨0,[],[],e⟩).1,a),(me m ⟨0,[],[],e⟩).2)
  | none=>
   if L<m.length\/i=nf then(((me m ⟨0,[],[],false⟩).1,a),(me m ⟨0,[],[],false⟩).2)
   else match a.lookup (key i s)with
   | some k=>((m,a),k)
   | none=>
    let r:=(S i s).foldl (λ(d:(List Dn×List (κ×Nat))×List Int) v=>
     let r:=mi nf b S c key L f d.1.1 d.1.2 (i+1) (c i s v)
     (r.1,d.2++[(r.2:Int)])) ((m,a),[])
    let q:=Ob r.1.1 i (S i s) r.2
    ((q.1,(key i s,q.2)::r.1.2),q.2)
structure xm (nf : Nat) (lo hi : Nat -> Int) (F : σ -> (Nat -> Int)-> Bool) (m : List Dn) (i : Nat) (s : σ) (k : Nat) : Prop where
 lt:k<m.length
 oo:i<=Rb nf (m.getD k Ka)
 Lp:∀c,od nf lo hi c->qg m k c=F s c
structure jn (nf : Nat) (lo hi : Nat -> Int) (F : σ -> (Nat -> Int)-> Bool) (key : Nat -> σ -> κ) (R : Nat -> σ -> Prop) (m : List Dn) (dn : List (κ × Nat)) : Prop where
 made:Made nf lo hi m
 from_:∀k,k<m.length->(m.getD k Ka).kids≠[]->∃i s,R i s/\(m.getD k Ka).fact=(i:Int)/\∀c,od nf lo hi c->qg m k c=F s c
 Vf:∀i s k,R i s->dn.lookup (key i s)=some k->xm nf lo hi F m i s k
theorem xm.more{F:σ->(Nat->Int)->Bool}{s:σ}{k:Nat}(h:xm nf lo hi F T j s k)(u:List Dn):xm nf lo hi F (T++u) j s k:=by
 have b:(T++u).getD k Ka=T.getD k Ka:=by{rw[Gd _ _ _ (by rw[Qa];have:=h.lt;omega),Gd,wg h.lt]}
 refine⟨by rw[Qa];have:=h.lt;omega,by rw[b];exact h.oo,?_⟩;intro c a;rw[Bj T c h.lt u];exact h.Lp c a
theorem CC{F:σ->(Nat->Int)->Bool}{R:Nat->σ->Prop}{n:Dn}
  (a:∀k,k<T.length->(T.getD k Ka).kids≠[]->∃i s,R i s/\(T.getD k Ka).fact=(i:Int)/\∀c,od nf lo hi c->qg T k c=F s c)
  (b:n.kids≠[]->∃i s,R i s/\n.fact=(i:Int)/\∀c,od nf lo hi c->qg (me T n).1 (me T n).2 c=F s c):
  ∀k,k<(me T n).1.length->((me T n).1.getD k Ka).kids≠[]->∃i s,R i s/\((me T n).1.getD k Ka).fact=(i:Int)/\∀c,od nf lo hi c->qg (me T n).1 k c=F s c:=by
 grind [me,Fs]
omit [LawfulBEq κ] in
theorem L7{F:σ->(Nat->Int)->Bool}{key:Nat->σ->κ}{R:Nat->σ->Prop}{e:List (κ×Nat)}(b:jn nf lo hi F key R T e)(d:j<=nf){s:σ}{a:Bool}(m:∀c,od nf lo hi c->F s c=a):
  jn nf lo hi F key R (me T ⟨0,[],[],a⟩).1 e/\xm nf lo hi F (me T ⟨0,[],[],a⟩).1 j s (me T ⟨0,[],[],a⟩).2/\∃u,(me T ⟨0,[],[],a⟩).1=T++u:=by
 have o:Br nf lo hi T ⟨0,[],[],a⟩:=⟨λ_=>⟨rfl,rfl⟩,λh=>absurd rfl h⟩;obtain⟨g,i,k,u,l⟩:=Ym b.made o;refine⟨⟨g,CC b.from_ (λh=>absurd rfl h),?_⟩,⟨i,?_,?_⟩,u,l⟩
 {intro q r k' p n;rw[l];exact(b.Vf q r k' p n).more u}
 {rw[k];unfold Rb;exact d}
 {intro c f;rw[g.reads _ i c f,k,m c f];rfl}
theorem dE{F:σ->(Nat->Int)->Bool}{a:σ->Option Bool}{S:Nat->σ->List Int}{giv:Nat->σ->Int->σ}{key:Nat->σ->κ}{R:Nat->σ->Prop}{L:Nat}
  (N:∀m n,jn nf lo hi F key R m n->m.length<=L)
  (O:∀i s X,R i s->a s=some X->∀c,od nf lo hi c->F s c=X) (anq:∀s,R nf s->a s≠none) (hRi:∀i s,R i s->i<=nf)
  (P:∀i s y A,R i s->R y A->key i s=key y A->i=y/\∀c,od nf lo hi c->F s c=F A c)
  (hRg:∀i s v,R i s->a s=none->i<nf->v∈S i s->R (i+1) (giv i s v))
  (hS:∀i s,R i s->a s=none->i<nf->∃o,S i s=lo i::o/\He (hi i) (lo i) o/\∀c,od nf lo hi c->F s c=F (giv i s ((lo i::o).getD (Ie o (c i)) 0)) c):
  ∀(f:Nat) (m:List Dn) (n:List (κ×Nat)) (i:Nat) (s:σ),jn nf lo hi F key R m n->R i s->nf-i<f->
  jn nf lo hi F key R (mi nf a S giv key L f m n i s).1.1 (mi nf a S giv key L f m n i s).1.2/\xm nf lo hi F (mi nf a S giv key L f m n i s).1.1 i s (mi nf a S giv key L f m n i s).2/\
  ∃u,(mi nf a S giv key L f m n i s).1.1=m++u:=by
 intro f
 induction f with
 | zero=>omega
 | succ f ih=>
  intro m n i s J D hf;have E:=hRi i s D;unfold mi;cases hc:a s with
  | some X=>exact L7 J E (O i s X D hc)
  | none=>
   dsimp only
   have hL:=N m n J
   have B:i<nf:=by
    grind
   rw[if_neg ja];cases Yr:n.lookup (key i s)with
   | some k=>exact⟨J,J.Vf i s k D Yr,[],Aa⟩
   | none=>
    dsimp only
    obtain⟨o,M,hch,hF⟩:=hS i s D hc B
    have W:∀(l:List Int),(∀v∈l,v∈S i s)->∀(b:(List Dn×List (κ×Nat))×List Int) (pre:List Int),jn nf lo hi F key R b.1.1 b.1.2->b.2.length=pre.length->
      (∀j,j<b.2.length->0<=b.2.getD j 0/\xm nf lo hi F b.1.1 (i+1) (giv i s (pre.getD j 0)) (b.2.getD j 0).toNat)->
      let r:=l.foldl (λ(b:(List Dn×List (κ×Nat))×List Int) v=>
       let r:=mi nf a S giv key L f b.1.1 b.1.2 (i+1) (giv i s v)
       (r.1,b.2++[(r.2:Int)])) b
      jn nf lo hi F key R r.1.1 r.1.2/\r.2.length=(pre++l).length/\
      (∀j,j<r.2.length->0<=r.2.getD j 0/\xm nf lo hi F r.1.1 (i+1) (giv i s ((pre++l).getD j 0)) (r.2.getD j 0).toNat)/\∃u,r.1.1=b.1.1++u:=by
     intro l
     induction l with
     | nil=>simp_all
     | cons v l ihl=>
      intro T b pre H h2 h3;have hr:=ih b.1.1 b.1.2 (i+1) (giv i s v) H (hRg i s v D hc B (T v (Wa ..))) ja;obtain⟨u,hu⟩:=hr.2.2
      have hn:=ihl (λw hw=>T w (Pa _ hw)) ((mi nf a S giv key L f b.1.1 b.1.2 (i+1) (giv i s v)).1,b.2++[((mi nf a S giv key L f b.1.1 b.1.2 (i+1) (giv i s v)).2:Int)]) (pre++[v]) hr.1
       (by simp[h2]) (by
        intro j x
        have x:j<(b.2++[((mi nf a S giv key L f b.1.1 b.1.2 (i+1) (giv i s v)).2:Int)]).length:=x
        rw[Qa]at x
        rcases td j b.2.length with PO|PO
        {have:=h3 j PO;rw[kj _ _ _ PO,kj _ _ _ ja];refine⟨this.1,?_⟩;show xm nf lo hi F (mi nf a S giv key L f b.1.1 b.1.2 _ _).1.1 _ _ _;rw[hu];exact this.2.more u}
        ·have QD:j=b.2.length:=by grind
         grind [Af,Int.toNat_natCast])
      rw[Nd];rw[Ic]at hn;obtain⟨n1,n2,n3,w,n4⟩:=hn;exact⟨n1,n2,n3,u++w,by grind⟩
    have hk:=W (S i s) (λ_ h=>h) ((m,n),[]) [] J rfl (λj x=>absurd x (Od j));revert hk
    generalize(S i s).foldl (λ(b:(List Dn×List (κ×Nat))×List Int) v=>
       let r:=mi nf a S giv key L f b.1.1 b.1.2 (i+1) (giv i s v)
       (r.1,b.2++[(r.2:Int)])) ((m,n),[])=r
    intro hk;obtain⟨I,Z,V,u,k4⟩:=hk;rw[Tb,M]at Z;simp only[Tb]at V;rw[M]at V⊢;obtain⟨⟨C,rd⟩,rk⟩:=r;simp only at I Z V k4;obtain⟨z,t,rfl⟩:∃z t,rk=z::t:=by cases rk with|nil=>simp at Z|cons p q=>exact⟨p,q,rfl⟩
    have T:t.length=o.length:=by simpa using Z
    have Q:∀k∈z::t,0<=k/\k.toNat<C.length/\i<Rb nf (C.getD k.toNat Ka):=by{intro k hm;obtain⟨j,x,rfl⟩:=List.mem_iff_getElem.1 hm;have H:=V j x;rw[Gd _ _ _ x]at H;have h2:=H.2.oo;exact⟨H.1,H.2.lt,ja⟩}
    have E:=bk I.made B (lo i) z o t T hch Q;have U:=Vw I.made B z o t T hch Q (F:=F s) (G:=λv=>F (giv i s v)) (λj x c Y=>(V j x).2.Lp c Y) hF;obtain⟨q1,q2,⟨w,q3⟩,q4,_⟩:=E;have e:xm nf lo hi F (Ob C i (lo i::o) (z::t)).1 i s (Ob C i (lo i::o) (z::t)).2:=⟨q2,q4,U⟩;refine⟨⟨q1,?_,?_⟩,e,u++w,by show(Ob C _ _ _).1=_;rw[q3,k4,Ic]⟩
    ·show ∀k,k<(Ob C i (lo i::o) (z::t)).1.length->_
     have g:=U;unfold Ob at g⊢;simp only[]at g⊢
     split
     {exact I.from_}
     ·next hne=>
      rw[if_neg hne]at g;exact CC I.from_ (λ_=>⟨i,s,D,rfl,g⟩)
    {intro y A k' K d;show xm nf lo hi F (Ob C i (lo i::o) (z::t)).1 y A k';have d:List.lookup (key y A) ((key i s,(Ob C i (lo i::o) (z::t)).2)::rd)=some k':=d;rw[Ab]at d;by_cases he:key y A=key i s;{rw[he]at d;simp only[beq_self_eq_true]at d;injection d with e3;subst e3;obtain⟨e1,e2⟩:=P y A i s K D he;subst e1;exact⟨e.lt,e.oo,λc Y=>by rw[e2 c Y];exact e.Lp c Y⟩};{(have:(key y A==key i s)=false:=by simpa using he);rw[this]at d;rw[q3];exact(I.Vf y A k' K d).more w}}
end
def ln:Int->List Int->List Int
 | _,[]=>[]
 | a,b::l=>if b=a then ln a l else b::ln b l
theorem fq{h:Int}:∀(l:List Int) (a:Int),(a::l).Pairwise (· <= ·)->(∀x∈l,x<=h)->He h a (ln a l)
 | [],_,_,_=>trivial
 | b::l,a,c,d=>by
  rw[uj]at c;have g:=c.1 b (Wa ..);unfold ln
  split
  ·next f=>
   subst f;exact fq l b c.2 λx e=>d x (Pa _ e)
  ·next f=>
   exact⟨ja,d b (Wa ..),fq l b c.2 λx e=>d x (Pa _ e)⟩
theorem Gv:∀(l:List Int) (a x:Int),x∈a::ln a l↔x∈a::l
 | [],_,_=>Iff.rfl
 | b::l,a,x=>by
  unfold ln
  split
  ·next c=>
   subst c;rw[Gv]
   simp
  {have d:=Gv l b x;rw[uf,d,uf (b:=a)]}
theorem xt{lo:Int}(f:C.Pairwise (· <= ·))(d:∀x∈C,lo<=x/\x<=Z)(e:lo∈C):∃b c,C=lo::b/\c=ln lo b/\He Z lo c/\∀x,x∈lo::c↔x∈C:=by
 cases C with| nil=>simp at e| cons a b=>{have g:a=lo:=by{have i:=(d a (Wa ..)).1;(rcases List.mem_cons.1 e with h2|h2);{exact h2.symm};{have:=(List.pairwise_cons.1 f).1 lo h2;omega}};subst g;exact⟨b,_,rfl,rfl,fq b a f λx h=>(d x (Pa _ h)).2,Gv b a⟩}
theorem sz:∀(n:Nat) (l:List Nat),l.Nodup->(∀x∈l,x<n)->l.length<=n
 | 0,l,_,h=>by cases l with| nil=>grind| cons x l=>grind [List.mem_cons_self]
 | n+1,l,a,h=>by
  have b:=sz n (l.erase n) (a.erase n) (by
   grind)
  grind
theorem Jr{d i:Type}(f:d->i):∀(l:List d),l.Nodup->(∀x∈l,∀y∈l,f x=f y->x=y)->(l.map f).Nodup
 | [],_,_=>Kd
 | a::l,c,inj=>by{rw[Ah]at c;rw[Eb,Ah];refine⟨?_,Jr f l c.2 λx h y b=>inj x (Pa _ h) y (Pa _ b)⟩;intro g;obtain⟨y,b,e⟩:=List.mem_map.1 g;exact c.1 (inj a (Wa ..) y (Pa _ b) e.symm▸b)}
theorem JG{a:Type}(l:List a)(b:l.Nodup)(code:a->Nat)(n:Nat)(inj:∀x∈l,∀y∈l,code x=code y->x=y)(h:∀x∈l,code x<n):l.length<=n:=by
 have:=sz n _ (Jr code l b inj) (by grind)
 grind
section
variable {nf : Nat} {lo hi : Nat -> Int} {a b : List Dn} {A B : Nat -> (Nat -> Int)-> Bool}
theorem pC(o:Made nf lo hi T)(hd:∀i,i<nf->lo i<=hi i)(n:Nat)(C:Nat->Nat->Prop)
  (B:∀k,k<T.length->(T.getD k Ka).kids≠[]->∃z,z<n/\C k z)
  (j:∀k k' z,k<T.length->k'<T.length->C k z->C k' z->∀c,od nf lo hi c->qg T k c=qg T k' c):T.length<=n+2:=by
 have g:=o.yh hd
 have hex:∀k,∃z,k<T.length->(((T.getD k Ka).kids≠[]->2<=z/\z<n+2/\C k (z-2))/\((T.getD k Ka).kids=[]->z=if(T.getD k Ka).leaf then 1 else 0)):=by{intro k;by_cases s:k<T.length;{by_cases h:(T.getD k Ka).kids=[];{simp_all};{obtain⟨z,f,b⟩:=B k s h;exact⟨z+2,λ_=>⟨λ_=>⟨ja,ja,by grind⟩,λA=>absurd A h⟩⟩}};{exact⟨0,λh=>absurd h s⟩}}
 have a:∃code:Nat->Nat,∀k,k<T.length->(((T.getD k Ka).kids≠[]->2<=code k/\code k<n+2/\C k (code k-2))/\((T.getD k Ka).kids=[]->code k=if(T.getD k Ka).leaf then 1 else 0)):=
  ⟨λk=>Classical.choose _,λk=>Classical.choose_spec (hex k)⟩
 obtain⟨code,a⟩:=a;have:=JG (List.range T.length) List.nodup_range code (n+2) ?_ ?_
 ·grind
 ·intro x d y e m
  have d:=List.mem_range.1 d;have e:=List.mem_range.1 e;have q:=a x d;have r:=a y e;by_cases f:(T.getD x Ka).kids=[]
  ·have l:=q.2 f
   by_cases b:(T.getD y Ka).kids=[]
   ·have p:=r.2 b
    have t:=(o.table x d).leaf f;have w:=(o.table y e).leaf b;apply cq o.nodup d e
    rw[l,p]at m;revert f b t w m;generalize T.getD x Ka=u;generalize T.getD y Ka=v;intro m f b t w;cases u;cases v
    grind
   grind
  ·have l:=q.1 f
   by_cases b:(T.getD y Ka).kids=[]
   ·grind
   {have p:=r.1 b;rw[m]at l;exact g.one d e (j x y _ d e l.2.2 p.2.2)}
 grind
theorem FM{R:Nat->Nat->Prop}{o:Mf}(h:RA nf lo hi a b A B R T o)(hd:∀i,i<nf->lo i<=hi i)(s:∀x y,R x y->x<a.length/\y<b.length):T.length<=a.length*b.length+2:=by
 refine pC h.made hd _ (λk z=>∃x y,x<a.length/\y<b.length/\z=x*b.length+y/\∀c,od nf lo hi c->qg T k c=(A x c&& B y c)) ?_ ?_
 ·intro k n l
  obtain⟨x,y,m,_,g⟩:=h.from_ k n l;have d:=s x y m;refine⟨_,?_,x,y,d.1,d.2,rfl,g⟩;have:(x+1)*b.length<=a.length*b.length:=ie _ d.1
  grind
 ·rintro k k' z n t ⟨x,y,m,v,g,d⟩ ⟨f,C,p,q,j,r⟩ c u
  have w:x=f:=by
   have e:=g.symm.trans j;rcases Xg x f with h|h|h
   ·have:(x+1)*b.length<=f*b.length:=ie _ h
    grind
   {exact h}
   ·have:(f+1)*b.length<=x*b.length:=ie _ h
    grind
  grind
end
section
variable {nf : Nat} {lo hi : Nat -> Int} {t : List Dn}
def ym(t:List Dn):Nat->Nat->(Nat->Int)->Bool
 | 0,_,_=>false
 | f+1,k,c=>if(t.getD k Ka).kids=[]then(t.getD k Ka).leaf else ym t f (rh (t.getD k Ka) (c (t.getD k Ka).fact.toNat)).toNat c
theorem XJ(a:Lg nf lo hi t)(c:Nat->Int):∀(f g k:Nat),k<t.length->nf-Rb nf (t.getD k Ka)<f->nf-Rb nf (t.getD k Ka)<g->ym t f k c=ym t g k c:=by
 intro f
 induction f with
 | zero=>omega
 | succ f l=>
  intro g k b e i;obtain⟨g,rfl⟩:∃d,g=d+1:=⟨g-1,ja⟩;unfold ym;by_cases h:(t.getD k Ka).kids=[]
  ·grind
  ·rw[if_neg h,if_neg h]
   have j:=((a k b).inner h).2.2.2.2.2.2.2 _ (mh (a k b) h (c (t.getD k Ka).fact.toNat))
   grind [Rb,Ug]
theorem KG(a:Lg nf lo hi t):aq nf lo hi t (ym t (nf+1)):=by
 intro k b c _;rw[XJ a c _ (nf+2) k b ja ja]
 grind [ym]
theorem qJ(a:Lg nf lo hi t)(b:t.Nodup)(hd:∀i,i<nf->lo i<=hi i):Ce nf lo hi t (ym t (nf+1)):=⟨a,KG a,b,hd⟩
end
end Go.Proofs.YtdipkbobalnilaaGreatDoor
