/- Plain core of chapter 15: where few cells keep the table within the limit, Build answers a diagram. No program. -/
import Derived.Test.YtdipkbobalnilaaGreatDoorAl
import Derived.Test.YtdipkbobalnilaaGreatDoorDgGL
import Derived.Test.YtdipkbobalnilaaGreatDoorDgAV
import Derived.Test.YtdipkbobalnilaaGreatDoorDgLs
namespace Go.Proofs.YtdipkbobalnilaaGreatDoor
variable{j:Nat}{F:Fo}{g G:Nat->Int}
section
variable {d : List Fa}
theorem Ai{a b:List Dn}(h:(Ae d a b).2=0):Qc d a/\Qc d b/\Qc d (Ae d a b).1/\∀c,od d.length (Fg d) (Hi d) c->Uc d (Ae d a b).1 0 c=(Uc d a 0 c&& Uc d b 0 c):=by
 unfold Ae at h⊢
 split at h
 ·next n=>
  rw[Ga n];have e:=Gh.1 n.1;have q:=Gh.1 n.2
  split at h
  {cases h}
  ·next l=>
   rw[if_neg l];have j:=ZW e q;have l:(Mh d a b).1.1.length<=20000:=by omega
   have r:=j.node l;have hd:=eh e.dom;have g:=j.inv.made.yh (yv hd);have p:=j.lt;obtain⟨m,u,s⟩:=lj g.table p (f:=d.length+1) ja;have i:=Kq g m;have hlen:(Gm d a b).length=(Mc (Mh d a b).1.1 (d.length+1) [] (Mh d a b).2).length:=by grind [Gm,ue]
   have hle:(Mc (Mh d a b).1.1 (d.length+1) [] (Mh d a b).2).length<=(Mh d a b).1.1.length:=by
    have:=Ac m.nodup (λy t=>List.mem_range.2 (m.inside y t))
    grind
   have k:Qc d (Gm d a b):=⟨e.dom,by grind,ja,i.table,i.nodup,Bs g p ja⟩;refine⟨e,q,k,λc o=>?_⟩;rw[(Et k.yh i _ 0 k.pos (wa _) c o)];rw[s];exact r.Lp c o
 {cases h}
def Ov(d:List Fa)(x y:List Dn):Bool×Int:=if(Ae d x (Hd y)).2=0 then((Ld d (Ae d x (Hd y)).1).isSome,0)else(false,(Ae d x (Hd y)).2)
def Ih(d:List Fa)(P:Nat->Fo)(a b:Nat):Bool×Int:=
 if(Nc d (P a)).2=0 then(if(Nc d (P b)).2=0 then Ov d (Nc d (P a)).1 (Nc d (P b)).1 else(false,(Nc d (P b)).2))else(false,(Nc d (P a)).2)
def bm(d:List Fa)(P:Nat->Fo)(a b:Nat):Bool×Bool×Int:=
 if(Ih d P a b).2=0 then(if(Ih d P b a).2=0 then(!(Ih d P a b).1&& (Ih d P b a).1, !(Ih d P a b).1&& !(Ih d P b a).1,0)else(false,false,(Ih d P b a).2))else(false,false,(Ih d P a b).2)
def Hn(d:List Fa)(P:Nat->Fo)(R T:Nat->Int)(a b:Nat):Int×Int:=
 if R a<R b then(1,0)else if R b<R a then(0,0)
 else if(bm d P a b).2.2=0 then(if(bm d P a b).1 then(2,0)else if(bm d P a b).2.1=true/\T b<T a then(3,0)else(0,0))else(0,(bm d P a b).2.2)
def Eu(d:List Fa)(x y:Fo):Prop:=∀c,od d.length (Fg d) (Hi d) c->Fe d c x=true->Fe d c y=true
theorem Eu.refl(x:Fo):Eu d x x:=λ_ _ h=>h
theorem Eu.trans{y z:Fo}(h:Eu d F y)(k:Eu d y z):Eu d F z:=λc a b=>k c a (h c a b)
theorem gO{P:Nat->Fo}{a b:Nat}(h:(Ih d P a b).2=0):(Ih d P a b).1=true↔¬Eu d (P a) (P b):=by
 unfold Ih at h⊢
 split at h
 ·next j=>
  split at h
  ·next k=>
   rw[Ga j,Ga k];obtain⟨_,_,w⟩:=yi j;obtain⟨s,_,x⟩:=yi k;unfold Ov at h⊢
   split at h
   ·next l=>
    rw[Ga l];obtain⟨_,_,t,y⟩:=Ai l;obtain⟨_,z⟩:=Xh s;have o:∀c,od d.length (Fg d) (Hi d) c->Uc d (Ae d (Nc d (P a)).1 (Hd (Nc d (P b)).1)).1 0 c=(Fe d c (P a)&& !Fe d c (P b)):=λc m=>by grind
    cases n:Ld d (Ae d (Nc d (P a)).1 (Hd (Nc d (P b)).1)).1 with
    | none=>
     refine⟨λe=>(by cases e),λq=>absurd (λc m v=>?_) q⟩
     grind [jz]
    | some p=>{obtain⟨_,_,g,A,_⟩:=Yi t n;refine⟨λ_ r=>?_,λ_=>rfl⟩;have u:=o _ g;(have f:Fe d (λi=>p.getD i 0) (P a)=true/\Fe d (λi=>p.getD i 0) (P b)=false:=by grind);rw[r _ g f.1]at f;cases f.2}
   omega
  omega
 omega
def gp(d:List Fa)(P:Nat->Fo)(R T:Nat->Int)(a b:Nat):Prop:=
 R a<R b\/(R a=R b/\Eu d (P a) (P b)/\(¬Eu d (P b) (P a)\/T b<T a))
theorem bT{P:Nat->Fo}{a b:Nat}(h:(bm d P a b).2.2=0):
  ((bm d P a b).1=true↔Eu d (P a) (P b)/\¬Eu d (P b) (P a))/\((bm d P a b).2.1=true↔Eu d (P a) (P b)/\Eu d (P b) (P a)):=by
 grind [bm,gO]
theorem oy{P:Nat->Fo}{a b:Nat}(h:(Hn d P g G a b).2=0):0<(Hn d P g G a b).1↔gp d P g G a b:=by
 grind [Hn,gp,bT]
theorem gI{P:Nat->Fo}(a:Nat):¬gp d P g G a a:=by
 rintro(h|⟨_,h,b|b⟩)
 all_goals grind
theorem nA{P:Nat->Fo}{a b c:Nat}(h:gp d P g G a b)(k:gp d P g G b c):gp d P g G a c:=by
 rcases h with h|⟨i,e,j⟩<;>rcases k with k|⟨l,f,m⟩
 {exact .inl ja}
 {exact .inl ja}
 {exact .inl ja}
 ·refine .inr ⟨ja,e.trans f,?_⟩
  grind [Eu]
theorem iO{P:Nat->Fo}(l:List Nat):∀(n a:Nat),a∈l->(∀S:List Nat,S.Nodup->(∀b∈S,b∈l/\gp d P g G b a)->S.length<=n)->∃b∈l,(b=a\/gp d P g G b a)/\∀x∈l,¬gp d P g G x b:=by
 intro n
 induction n with
 | zero=>{intro a i f;refine⟨a,i,.inl rfl,λx j m=>?_⟩;have:=f [x] Aa (λb e=>by grind);simp at this}
 | succ n p=>
  intro a i f;by_cases o:∃x∈l,gp d P g G x a
  ·obtain⟨x,j,m⟩:=o
   obtain⟨b,q,r,s⟩:=p x j (λS k c=>by
    have:=f _ (List.nodup_cons.2 ⟨λh=>gI x (c x h).2,k⟩) (λb e=>by
     grind [nA])
    grind)
   grind [nA]
  grind
theorem iI{P:Nat->Fo}{R T:Nat->Int}(l:List Nat){a:Nat}(f:a∈l):∃b∈l,(b=a\/gp d P R T b a)/\∀x∈l,¬gp d P R T x b:=
 iO l _ a f λ_ e c=>Ac e λb g=>(c b g).1
end
section
def ji(W:Nat->Nat->Int×Int)(Q:Nat->Bool)(a:Nat):List Nat->Bool->Bool×Int
 | [],c=>(c,0)
 | b::l,c=>if Q b=true/\a≠b then(if(W b a).2=0 then ji W Q a l (c || decide (0<(W b a).1))else(false,(W b a).2))else ji W Q a l c
def Sk(W:Nat->Nat->Int×Int)(Q:Nat->Bool)(n:Nat):List Nat->List Nat->List Nat×Int
 | [],out=>(out,0)
 | a::l,out=>if Q a=true then(if(ji W Q a (List.range n) false).2=0 then Sk W Q n l (if(ji W Q a (List.range n) false).1 then out else out++[a])else([],(ji W Q a (List.range n) false).2))else Sk W Q n l out
variable {W : Nat -> Nat -> Int × Int} {Q : Nat -> Bool} {a n : Nat}
theorem Qn:∀(l:List Nat) (g:Bool),(ji W Q a l g).2=0->(∀b∈l,Q b=true->a≠b->(W b a).2=0)/\((ji W Q a l g).1=true↔g=true\/∃b∈l,Q b=true/\a≠b/\0<(W b a).1)
 | [],g,_=>⟨λb p=>(by cases p),by simp[ji]⟩
 | b::l,g,h=>by{rw[ji]at h⊢;by_cases f:Q b=true/\a≠b;{rw[Ga f]at h⊢;by_cases i:(W b a).2=0;{rw[Ga i]at h⊢;obtain⟨n,o⟩:=Qn l _ h;refine⟨λc d k m=>(List.mem_cons.1 d).elim (λe=>by rw[e];exact i) (λd=>n c d k m),?_⟩;rw[o];constructor;{rintro(h|⟨c,d,h⟩);{(rcases Bool.or_eq_true_iff.1 h with h|h);{exact .inl h};{exact .inr ⟨b,Wa ..,f.1,f.2,by simpa using h⟩}};{exact .inr ⟨c,Pa _ d,h⟩}};{rintro(j|⟨c,d,j⟩);{exact .inl (by rw[j];rfl)};{(rcases List.mem_cons.1 d with rfl|d);{exact .inl (by rw[Hb j.2.2];simp)};{exact .inr ⟨c,d,j⟩}}}};{rw[if_neg i]at h;exact absurd h i}};{rw[if_neg f]at h⊢;obtain⟨n,o⟩:=Qn l _ h;refine⟨λc d k m=>(List.mem_cons.1 d).elim (λe=>by subst e;exact absurd ⟨k,m⟩ f) (λd=>n c d k m),?_⟩;rw[o];refine or_congr Iff.rfl ⟨λ⟨c,d,h⟩=>⟨c,Pa _ d,h⟩,λ⟨c,d,h⟩=>?_⟩;(rcases List.mem_cons.1 d with rfl|d);{exact absurd ⟨h.1,h.2.1⟩ f};{exact⟨c,d,h⟩}}}
theorem Fw:∀(l out:List Nat),(Sk W Q n l out).2=0->(∀a∈l,Q a=true->∀b,b<n->Q b=true->a≠b->(W b a).2=0)/\
  (Sk W Q n l out).1=out++l.filter (λa=>Q a&& !(ji W Q a (List.range n) false).1)
 | [],out,_=>⟨λa r=>(by cases r),by simp[Sk]⟩
 | a::l,out,h=>by{rw[Sk]at h⊢;by_cases f:Q a=true;{rw[Ga f]at h⊢;by_cases g:(ji W Q a (List.range n) false).2=0;{rw[Ga g]at h⊢;obtain⟨j,k⟩:=Fw l _ h;obtain⟨q,_⟩:=Qn _ _ g;refine⟨λc d i b m o p=>(List.mem_cons.1 d).elim (λe=>by subst e;exact q b (List.mem_range.2 m) o p) (λd=>j c d i b m o p),?_⟩;rw[k,Jc];cases(ji W Q a _ false).1<;>simp[f]};{rw[if_neg g]at h;exact absurd h g}};{rw[if_neg f]at h⊢;obtain⟨j,k⟩:=Fw l _ h;refine⟨λc d i=>(List.mem_cons.1 d).elim (λe=>by subst e;exact absurd i f) (λd=>j c d i),?_⟩;rw[k,Jc];simp[f]}}
structure M1 (W : Nat -> Nat -> Int × Int) (Q : Nat -> Bool) (n : Nat) (r : List Nat) : Prop where
 err:∀a,a<n->Q a=true->∀b,b<n->Q b=true->a≠b->(W b a).2=0
 mem:∀a,a∈r↔a<n/\Q a=true/\∀b,b<n->Q b=true->a≠b->¬0<(W b a).1
 order:r.Pairwise (· < ·)
theorem tW(h:(Sk W Q n (List.range n) []).2=0):M1 W Q n (Sk W Q n (List.range n) []).1:=by
 obtain⟨p,q⟩:=Fw _ _ h;have r:=λa c=>p a (List.mem_range.2 c)
 have f:∀(a:Nat) (l:List Nat) (o:Bool),(∀b∈l,b<n)->a<n->Q a=true->(ji W Q a l o).2=0:=by
  intro a l
  induction l with
  | nil=>intro o _ _ _;rfl
  | cons b l s=>
   grind [ji]
 rw[q,Tb];refine⟨r,λa=>?_,(xh ..).filter _⟩;rw[Qp,Sh,Ib];constructor
 {rintro⟨c,g,i⟩;refine⟨c,g,λb d k m j=>?_⟩;have:=(Qn _ false (f a _ _ (λb f=>List.mem_range.1 f) c g)).2.2 (.inr ⟨b,List.mem_range.2 d,k,m,j⟩);rw[this]at i;cases i}
 {rintro⟨c,g,i⟩;refine⟨c,g,?_⟩;cases e:(ji W Q a (List.range n) false).1 with| false=>rfl| true=>{(obtain e|⟨b,d,k,m,j⟩:=(Qn _ false (f a _ _ (λb f=>List.mem_range.1 f) c g)).2.1 e);{cases e};{exact absurd j (i b (List.mem_range.1 d) k m)}}}
end
open Go.RowKit
def Gj(w:Ca)(B:Nat)(d:List Fa)(ps:List Pv)(ts:List Int)(v:Ea):Prop:=
 ∃u1 u2 u3,v=.agg #[u1,u2,u3]/\Sa Jk 4 w B d u1/\Sa jm 23 w B ps u2/\Sa (Ad (Value.int .i64)) 1 w B ts u3
theorem Gj.below{w b:Ca}{B:Nat}(a:Da B w b){d:List Fa}{ps:List Pv}{ts:List Int}{v:Ea}(h:Gj w B d ps ts v):Gj b B d ps ts v:=by
 obtain⟨u1,u2,u3,rfl,c,e,f⟩:=h;exact⟨u1,u2,u3,rfl,c.below Jk.kept a,e.below jm.kept a,f.below (Ad.kept _) a⟩
theorem jm.mono:jm.SG:=λ_ _ _ _ _ _ a ⟨c,e,b,d,h,g,f,r⟩=>⟨c,e,b,d,h,Fo.In.mono a _ _ g,Sa.mono (Ad.mono _) a f,r⟩
theorem Gj.mono{w:Ca}{B b:Nat}(a:B<=b){d:List Fa}{ps:List Pv}{ts:List Int}{v:Ea}(h:Gj w B d ps ts v):Gj w b d ps ts v:=by
 obtain⟨u1,u2,u3,rfl,c,e,f⟩:=h;exact⟨u1,u2,u3,rfl,c.mono Jk.mono a,e.mono jm.mono a,f.mono (Ad.mono _) a⟩
theorem Gj.law{w:Ca}{d:List Fa}{ps:List Pv}{ts:List Int}{v:Ea}(h:Gj w j d ps ts v):ur w j d ps v:=by
 obtain⟨u1,u2,u3,rfl,b,e,f⟩:=h;obtain⟨a,c,rfl,_⟩:=Sa.shape f;exact⟨u1,u2,a,_,c,rfl,b,e⟩
def pd(ps:List Pv)(i:Nat):Fo:=match ps[i]? with|some p=>p.cond|none=>.mk 0 We 0 0 []
def Jj(ps:List Pv)(i:Nat):Int:=match ps[i]? with|some p=>p.oo|none=>0
def Dj(ts:List Int)(i:Nat):Int:=ts.getD i 0
theorem tH{ps:List Pv}(h:j<ps.length):pd ps j=ps[j].cond:=by grind [pd]
theorem dI{ps:List Pv}(h:j<ps.length):Jj ps j=ps[j].oo:=by grind [Jj]
def fI(d:List Fa):List (Na×Bool)->List Pv->Bool
 | _,[]=>true
 | m,p::l=>if m.lookup p.id=some true\/se p.cond d (λ_=>false)≠0 then false else fI d (ins m p.id true) l
def Ef(d:List Fa)(ps:List Pv)(n:Nat):Bool:=gf d&& decide (ps.length<=2000)&& decide (n=ps.length)&& fI d [] ps
theorem Vt(d:List Fa):∀(l:List Pv) (m:List (Na×Bool)),fI d m l=true->(∀p∈l,se p.cond d (λ_=>false)=0/\m.lookup p.id≠some true)/\l.Pairwise λp q=>p.id≠q.id
 | [],m,_=>⟨λp j=>(by cases j),.nil⟩
 | p::l,m,h=>by
  rw[fI]at h
  split at h
  {cases h}
  ·next i=>
   obtain⟨k,n⟩:=not_or.1 i;obtain⟨b,g⟩:=Vt d l _ h
   have c:∀q∈l,m.lookup q.id≠some true/\p.id≠q.id:=λq a=>by{have:=(b q a).2;rw[gq]at this;by_cases e:q.id=p.id;{rw[Ga e]at this;exact absurd rfl this};{rw[if_neg e]at this;exact⟨this,λf=>e f.symm⟩}}
   refine⟨λq a=>?_,List.pairwise_cons.2 ⟨λq a=>(c q a).2,g⟩⟩;rcases List.mem_cons.1 a with rfl|a
   {exact⟨by simpa using n,k⟩}
   {exact⟨(b q a).1,(c q a).1⟩}
structure uW (d : List Fa) (ps : List Pv) (n : Nat) : Prop where
 dom:gf d=true
 len:ps.length<=2000
 days:n=ps.length
 check:∀p∈ps,se p.cond d (λ_=>false)=0
 ids:ps.Pairwise λp q=>p.id≠q.id
theorem Dw{d:List Fa}{ps:List Pv}{n:Nat}(h:Ef d ps n=true):uW d ps n:=by
 unfold Ef at h;simp at h;obtain⟨⟨⟨a,b⟩,c⟩,e⟩:=h;obtain⟨g,i⟩:=Vt d ps [] e;exact⟨a,b,c,λp f=>(g p f).1,i⟩
def YE(ps:List Pv)(a b:Int):Bool:=decide (0<=a)&& decide (a<ps.length)&& decide (0<=b)&& decide (b<ps.length)
def sW(d:List Fa)(ps:List Pv)(ts:List Int)(a b:Int):Int×Int:=
 if Ef d ps ts.length=true/\YE ps a b=true then Hn d (pd ps) (Jj ps) (Dj ts) a.toNat b.toNat else(0,1)
def TK(d:List Fa)(ps:List Pv)(ts:List Int)(a b:Int):Bool×Int:=(decide (0<(sW d ps ts a b).1),(sW d ps ts a b).2)
section
variable {d : List Fa} {ps : List Pv} {ts : List Int} {a b c : Int}
def cM(d:List Fa)(ps:List Pv)(ts:List Int)(a b:Int):Bool:=(TK d ps ts a b).1&& ((TK d ps ts a b).2==0)
end
section
section
variable {nf : Nat} {lo hi : Nat -> Int} {σ κ : Type} [BEq κ] [LawfulBEq κ]
theorem jO{F:σ->(Nat->Int)->Bool}{a:σ->Option Bool}{S:Nat->σ->List Int}{giv:Nat->σ->Int->σ}{key:Nat->σ->κ}{R:Nat->σ->Prop}
    (e:∀m d,jn nf lo hi F key R m d->m.length<=j)
    (t:∀i s z,R i s->a s=some z->∀c,od nf lo hi c->F s c=z) (u:∀s,R nf s->a s≠none) (o:∀i s,R i s->i<=nf)
    (w:∀i s B C,R i s->R B C->key i s=key B C->i=B/\∀c,od nf lo hi c->F s c=F C c)
    (n:∀i s v,R i s->a s=none->i<nf->v∈S i s->R (i+1) (giv i s v))
    (J:∀i s,R i s->a s=none->i<nf->∃y,S i s=lo i::y/\He (hi i) (lo i) y/\∀c,od nf lo hi c->F s c=F (giv i s ((lo i::y).getD (Ie y (c i)) 0)) c):
    ∀(f:Nat) (m:List Dn) (d:List (κ×Nat)) (i:Nat) (s:σ),jn nf lo hi F key R m d->R i s->nf-i<f->
    Nh nf a S giv key j f false m d i s=(((mi nf a S giv key j f m d i s).1,false),(mi nf a S giv key j f m d i s).2):=by
  intro f
  induction f with
  | zero=>omega
  | succ f O=>
    intro m d i s E G Q;unfold Nh mi;cases K:a s with
    | some z=>rfl
    | none=>
      dsimp only
      have P:=e m d E;have L:=o i s G
      have A:i<nf:=by
        grind
      have I:decide (j<m.length)=false:=by grind
      rw[I,if_neg (by simp;omega),if_neg ja];cases N:d.lookup (key i s)with
      | some k=>rfl
      | none=>
        have x:∀(l:List Int),(∀v∈l,v∈S i s)->∀(b:(List Dn×List (κ×Nat))×List Int),jn nf lo hi F key R b.1.1 b.1.2->
            l.foldl (Rl nf a S giv key j f i s) ((b.1,false),b.2)=
              (((l.foldl (λb v=>
                let r:=mi nf a S giv key j f b.1.1 b.1.2 (i+1) (giv i s v)
                (r.1,b.2++[(r.2:Int)])) b).1,false),(l.foldl (λb v=>
                let r:=mi nf a S giv key j f b.1.1 b.1.2 (i+1) (giv i s v)
                (r.1,b.2++[(r.2:Int)])) b).2):=by
          intro l
          induction l with
          | nil=>grind
          | cons v l ihl=>
            intro M b D;have p:=n i s v G K A (M v (Wa ..));have q:=O _ _ _ _ D p ja;have g:=dE e t u o w n J f _ _ _ _ D p ja
            grind [Rl]
        have q:=x _ (λ_ h=>h) ((m,d),[]) E;have H:(λb v=>((Nh nf a S giv key j f _ _ _ _ _).1,b.2++[((Nh nf a S giv key j f _ _ _ _ _).2:Int)]))=Rl nf a S giv key j f i s:=rfl;rw[H,q]
end
variable {d : List Fa}
theorem Ut{f:Fo}(l:gf d=true)(h:se f d (λ_=>false)=0)(b:uv d f):Nc d f=ZD d f:=by
 have hd:=eh l;have hw:=jk h
 have q:=jO (giv:=yo d) b.cap
  (λi s p a h c _=>eE a.wf h c) (λs a=>cy a) (λi s a=>a.le)
  (λi s z o a k m=>by
   obtain⟨r,t⟩:=It (Uw d _ s (wa _) a.wf) (Uw d _ o (wa _) k.wf) m
   grind)
  (λi s v a _ hi l=>xo hd a hi l) (λi s a _ hi=>rn hd a hi) (d.length+1) [] [] 0 _ (wv f) (Mj hw) ja
 have a:nk d f=(((pk d f).1,false),(pk d f).2):=q;have w:=b.cap _ _ b.inv
 have j:(Wi d f).length<=20000:=by
  unfold Wi;have g:=b.inv.made.yh (yv hd);obtain⟨j,u,x⟩:=lj g.table b.root.lt (f:=d.length+1) ja;have:=Ac j.nodup (λy n=>List.mem_range.2 (j.inside y n))
  grind
 unfold Nc ZD;rw[a];have e:Wi d f=Mc (pk d f).1.1 (d.length+1) [] (pk d f).2:=by unfold Wi;rw[a]
 rw[if_neg (show ¬(false=true\/20000<(Wi d f).length) by simp;omega),e]
 rfl
end
end Go.Proofs.YtdipkbobalnilaaGreatDoor
