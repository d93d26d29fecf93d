/- The walk of diagram.Build. A bound on the formula's cells. -/
import Derived.Test.YtdipkbobalnilaaGreatDoorAl
import Derived.Test.YtdipkbobalnilaaGreatDoorDgST
import Derived.Test.YtdipkbobalnilaaGreatDoorHoldsA
set_option maxRecDepth 100000
set_option maxHeartbeats 4000000
namespace Go.Proofs.YtdipkbobalnilaaGreatDoor
open Tryz
variable{j:Nat}{T:List Dn}{Z:Int}{E:TypeId}{C:List Int}{F:Fo}{A:Option Addr}{g G:Nat->Int}{L:Act}{M:Oper}
theorem gC:∀(b:List Fo) (k:Fo),k∈b->k.size<=Fo.Cd b
 | [],_,h=>by cases h
 | a::l,k,h=>by{rw[Fo.Cd];(rcases List.mem_cons.1 h with rfl|h);{omega};{have:=gC l k h;omega}}
theorem Ct(p:Fo->Bool):∀b:List Fo,Fo.Cd (b.filter p)<=Fo.Cd b
 | []=>wa _
 | a::l=>by{have:=Ct p l;rw[Jc];(split);{rw[Fo.Cd,Fo.Cd];omega};{rw[Fo.Cd];omega}}
theorem UM(d u z:Int)(l:List Fo):(Pk d u z l).size<=Fo.Cd l+1:=by
 unfold Pk;cases h:l.find? (λk=>k.op==z)with
 | some k=>have:=gC l k (List.mem_of_find?_eq_some h);grind
 | none=>
  have c:=Ct (λk=>k.op !=u) l;generalize l.filter (λk=>k.op !=u)=fs at*
  match fs,c with| [],_=>rw[Fo.size,Fo.Cd];omega| [k],c=>rw[Fo.Cd,Fo.Cd]at c;dsimp only;omega| a::b::r,c=>rw[Fo.size];omega
theorem YF(d:List Fa)(i:Na)(x:Int):∀(N:Nat) (f:Fo),f.size<=N->Gk d f->(Sg i x f).size<=f.size:=by
 intro N
 induction N with
 | zero=>intro f h;obtain⟨j,s,c,n,e⟩:=f;grind [Fo.size]
 | succ N v=>
  intro f h hw;obtain⟨j,s,c,n,e⟩:=f;have t:=en j c n s e;have o:1<=(Fo.mk j s c n e).size:=by rw[Fo.size];omega
  have r:∀b,(Ei b).size=1:=λb=>by unfold Ei;rw[Fo.size,Fo.Cd]
  have q:YT d e->Fo.Cd (TA i x e)<=Fo.Cd e:=by
   intro hw;rw[Dt]
   have:∀l,(∀k∈l,k∈e)->Fo.Cd (l.map (Sg i x))<=Fo.Cd l:=by
    intro l
    induction l with
    | nil=>grind
    | cons a l ihl=>
     grind [Si,Fo.Cd]
   grind
  rw[Gk]at hw;rw[Sg];rcases hw with⟨g,rfl,rfl,rfl,rfl⟩|⟨rfl,_,_,_,_,rfl⟩|⟨g,rfl,rfl,rfl,p⟩
  ·grind
  ·grind
  ·have u:=q p
   rcases g with⟨rfl,m⟩|⟨g,m⟩
   ·match e,m with
    | [k],_=>
     grind [TA,pv,Fo.size]
   grind [UM,Fo.size]
theorem iQ(b c n:Int)(a:Na)(d:Wh b)(e:Wh c)(f:Wh n)(h:a.size<=24):(wm b c n a).length<=100:=jQ b c n a d e f h
theorem cC(d:List Fa):∀(N:Nat) (f:Fo),f.size<=N->Gk d f->(kg f).length<=101*f.size:=by
 intro N
 induction N with
 | zero=>intro f h;obtain⟨e,s,c,n,b⟩:=f;grind [Fo.size]
 | succ N p=>
  intro f h hw;obtain⟨e,s,c,n,b⟩:=f;have o:=en e c n s b;have w0:Wh 0:=⟨Ba,Ba⟩
  have j:YT d b->(je b).length<=101*Fo.Cd b:=by
   intro hw
   have:∀l,(∀k∈l,k∈b)->(je l).length<=101*Fo.Cd l:=by
    intro l
    induction l with
    | nil=>intro _;exact wa _
    | cons a l ihl=>
     grind [Si,je,Fo.Cd]
   grind
  have fin:∀ {e c n:Int} {s:Na} {b:List Fo},Wh e->Wh c->Wh n->s.size<=24->(je b).length<=101*Fo.Cd b->(kg (.mk e s c n b)).length<=101*(Fo.mk e s c n b).size:=by
   grind [iQ,Ry,Fo.size]
  rcases hw with⟨g,rfl,rfl,rfl,rfl⟩|⟨rfl,g,i,m,_,rfl⟩|⟨g,rfl,rfl,rfl,i⟩
  {exact fin ⟨ja,ja⟩ w0 w0 Ba (by simp[je])}
  {exact fin ⟨Ba,Ba⟩ ⟨ja,ja⟩ ⟨ja,ja⟩ (by grind [Oe]) (by simp[je])}
  {exact fin ⟨ja,ja⟩ w0 w0 Ba (j i)}
section
variable {d : List Fa}
def stepG(d:List Fa)(f i:Nat)(s:Fo)(a:(List Dn×List (Na×Nat))×List Int)(v:Int):(List Dn×List (Na×Nat))×List Int:=
 ((Pw d f a.1.1 a.1.2 (i+1) (yo d i s v)).1,a.2++[((Pw d f a.1.1 a.1.2 (i+1) (yo d i s v)).2:Int)])
structure acL (d : List Fa) (f0 : Fo) (n : Nat) (r : (List Dn × List (Na × Nat)) × List Int) : Prop where
 inv:jn d.length (Fg d) (Hi d) (λs c=>Fe d c s) ik (Kk d f0) r.1.1 r.1.2
 len:r.2.length=n
 kids:∀x∈r.2,0<=x/\x<=20000
theorem Hq:∀(l:List Int) (a:Int),(ln a l).length<=l.length
 | [],_=>wa _
 | b::l,a=>by{unfold ln;(split);{have:=Hq l a;simp;omega};{have:=Hq l b;simp;omega}}
theorem kJ(i:Nat)(s:Fo):(vm d i s).length<=2*s.size+1:=by
 unfold vm Zk;have b:=tv (Ny d i) s
 have c:∀l,(qt l).length<=l.length:=by{intro l;cases l with| nil=>exact wa _| cons a l=>have:=Hq l a;unfold qt;simp;omega}
 grind [List.length_mergeSort]
theorem dQ(hd:Di d)(a:j<d.length)(h:Z∈vm d j F):0<=Z/\Z<=1000000:=by
 have b:=hd.Uu j a;obtain⟨f,e,_,c⟩:=Xi (Ny d j) b.2.1 F
 grind [vm]
end
theorem kQ{a b:Na}:Lh a b=true↔a=b:=by
 grind [Lh,Hp]
theorem hC:∀(d:List Fa) (l:List (Na×Bool)),Ll d l=true->∀i,(h:i<d.length)->(Dr d[i] || Hm d[i])=true/\Oe d[i].name=true/\l.lookup d[i].name=none/\∀j,(c:j<d.length)->j<i->d[j].name≠d[i].name
 | [],_,_,i,h=>absurd h (Od i)
 | f::d,l,m,i,h=>by
  rw[Ll]at m;simp only[Ib]at m;obtain⟨⟨⟨o,p⟩,q⟩,r⟩:=m;have n:=hC d _ r
  match i,h with
  | 0,_=>exact⟨o,p,by simpa using q,λj _ c=>absurd c ja⟩
  | i+1,h=>
   have s:i<d.length:=by simpa using h
   obtain⟨u,v,w,z⟩:=n i s
   have t:∀(l:List (Na×Bool)) (k:Na),(l++[(f.name,true)]).lookup k=none->l.lookup k=none/\k≠f.name:=by{intro l;induction l with| nil=>{intro k b;refine⟨rfl,?_⟩;rintro rfl;simp at b}| cons a l n=>{intro k b;obtain⟨x,y⟩:=a;rw[Cc,Ab]at b;rw[Ab];by_cases e:(k==x)=true;{rw[e]at b;cases b};{(have e:(k==x)=false:=by simpa using e);rw[e]at b⊢;exact n k b}}}
   obtain⟨A,B⟩:=t l _ w;refine⟨by simpa using u,by simpa using v,by simpa using A,?_⟩;intro j c g
   match j,c,g with| 0,_,_=>simpa using λe=>B (Eq.symm e)| j+1,c,g=>simpa using z j (by simpa using c) ja
theorem iC(s:Na):∀(d:List Fa) (k:Int) (i:Nat) (h:i<d.length),d[i].name=s->(∀j,(g:j<d.length)->j<i->d[j].name≠s)->idxFrom (λf:Fa=>Lh f.name s) d k=k+i
 | f::d,k,0,_,b,_=>by
  grind [idxFrom,kQ]
 | f::d,k,i+1,h,b,a=>by{rw[idxFrom];have c:f.name≠s:=a 0 Aa ja;rw[if_neg (λe=>c (kQ.1 e)),iC s d _ i (by simpa using h) b (λj g l=>a (j+1) ja ja)];omega}
theorem eh{d:List Fa}(h:gf d=true):Di d:=by
 unfold gf at h;simp at h;have b:=hC d [] h.1;refine⟨h.2,λi a=>?_,λi a=>?_⟩
 {obtain⟨_,c,_,f⟩:=b i a;(have e:Ny d i=d[i].name:=by grind [Ny]);rw[e];refine⟨?_,c⟩;unfold ki;rw[iC _ d 0 i a rfl f];omega}
 grind [Fg,Hi,Dr,Hm]
theorem lQ{d:List Fa}:∀(N:Nat) (f:Fo),f.size<=N->(∀x∈ch f,Jg d (λ_=>false) x=0)->Gk d f:=by
 intro N
 induction N with
 | zero=>intro f h;have:=f.size_pos;omega
 | succ N E=>
  intro f C v;obtain⟨b,g,c,n,i⟩:=f;have p:=v _ (Qw _)
  have A:∀k∈i,Gk d k:=λk D=>by
   grind [List.getElem_of_mem,Fo.Eh,Fo.size,ch,Rw]
  have r:Jg d (λ_=>false) _=if Th (.mk b g c n i)=false then 1 else if b=3/\(n<0\/1000000<n)then 10 else if(b=3/\ki d g<0)\/(b=4/\false=false)then 7 else 0:=rfl;rw[r]at p;clear r;by_cases j:Th (.mk b g c n i)=false
  ·grind
  rw[if_neg j]at p;by_cases y:b=3/\(n<0\/1000000<n)
  {omega}
  rw[if_neg y]at p;by_cases w:(b=3/\ki d g<0)\/(b=4/\false=false)
  ·grind
  have j:Th (.mk b g c n i)=true:=by grind
  have s:Th _=if YD (.mk b g c n i)=true then false
   else if b=1\/b=2 then decide (i.length=0)
   else if b=3 then((decide (i.length=0)&& Oe g)&& decide (1<=c))&& decide (c<=6)
   else if b=4 then decide (i.length=0)&& Oe g
   else if b=5 then decide (i.length=1)
   else if b=6\/b=7 then decide (2<=i.length)
   else false:=rfl
  rw[s]at j;by_cases l:YD (.mk b g c n i)=true
  ·grind
  rw[if_neg l]at j
  have l:(((b !=3)&& ((c !=0) || (n !=0))) || (((b !=3)&& (b !=4))&& !g.toList.isEmpty))=false:=by
   have:YD (.mk b g c n i)=(((b !=3)&& ((c !=0) || (n !=0))) || (((b !=3)&& (b !=4))&& !g.toList.isEmpty)):=rfl
   grind
  have o:b≠3->g=We/\c=0/\n=0:=by{intro m;(have t:(b !=3)=true:=by grind);(have u:(b !=4)=true:=by grind);rw[t,u,zo]at l;simp at l;refine⟨?_,l.1.1,l.1.2⟩;obtain⟨⟨a⟩⟩:=g;have z:a=[]:=by{have:=congrArg (λx=>x.data.toList) l.2;exact this};subst z;rfl}
  rw[Gk];by_cases q:b=1\/b=2
  ·grind
  rw[if_neg q]at j;by_cases m:b=3
  {rw[Ga m]at j;simp only[Ib,decide_eq_true_iff]at j;(have B:¬ki d g<0:=λe=>w (.inl ⟨m,e⟩));refine .inr (.inl ⟨m,ja,?_,j.1.1.2,⟨(ki d g).toNat,ja,?_⟩,by grind⟩);all_goals grind [As,ki]}
  grind [Si]
theorem Sy{d:List Fa}{e:Na->Bool}:∀l,bf d e l=0->∀x∈l,Jg d e x=0
 | [],_,x,b=>by cases b
 | a::l,h,x,b=>by{rw[bf]at h;by_cases c:Jg d e a=0;{rw[Ga c]at h;(rcases List.mem_cons.1 b with rfl|b);{exact c};{exact Sy l h x b}};{rw[if_neg c]at h;exact absurd h c}}
theorem Pp{d:List Fa}{a:Na->Bool}{f:Fo}(h:se f d a=0):f.size<=200/\f.depth<=20/\∀x∈ch f,Jg d a x=0:=by
 unfold se at h
 split at h
 {cases h}
 {exact⟨ja,ja,Sy _ h⟩}
theorem jk{d:List Fa}{f:Fo}(h:se f d (λ_=>false)=0):Gk d f:=lQ _ f (wa _) (Pp h).2.2
structure ahC (d : List Fa) (l : List (Na × Bool)) : Prop where
 nodup:(l.map (·.1)).Nodup
 known:∀p∈l,∃k:Nat,ki d p.1=k/\k<d.length
section
variable {d : List Fa}
def pk(d:List Fa)(f:Fo):(List Dn×List (Na×Nat))×Nat:=Pw d (d.length+1) [] [] 0 (Sg We 0 f)
def Ml(d:List Fa)(f:Fo):List Dn:=ue (pk d f).1.1 (Mc (pk d f).1.1 (d.length+1) [] (pk d f).2)
def ZD(d:List Fa)(f:Fo):List Dn×Int:=
 if gf d=false\/se f d (λ_=>false)≠0 then([],1)else if 24<(dl f []).length then([],2)else(Ml d f,0)
structure uv (d : List Fa) (f : Fo) : Prop where
 cap:∀m dn,jn d.length (Fg d) (Hi d) (λs c=>Fe d c s) ik (Kk d f) m dn->m.length<=20000
 inv:jn d.length (Fg d) (Hi d) (λs c=>Fe d c s) ik (Kk d f) (pk d f).1.1 (pk d f).1.2
 root:xm d.length (Fg d) (Hi d) (λs c=>Fe d c s) (pk d f).1.1 0 (Sg We 0 f) (pk d f).2
theorem built(hd:Di d){f:Fo}(hw:Gk d f)(i:cellsD d f<=19998):uv d f:=by
 have a:∀m b,jn d.length (Fg d) (Hi d) (λs c=>Fe d c s) ik (Kk d f) m b->m.length<=20000:=λm b h=>by{have:=jC hd h;omega}
 obtain⟨e,g,_⟩:=nQ hd a (d.length+1) [] [] 0 _ (wv f) (Mj hw) ja;exact⟨a,e,g⟩
theorem yv(hd:Di d):∀i,i<d.length->Fg d i<=Hi d i:=λi a=>(hd.Uu i a).2.1
theorem Vu{d:Int}:∀(l:List Int) (a:Int),He d a l->a<=d->(l.length:Int)<=d-a
 | [],_,_,h=>by simp;omega
 | c::l,a,b,_=>by{have:=Vu l c b.2.2 b.2.1;have:=b.1;simp;omega}
theorem Tm(hd:Di d)(e:Lg d.length (Fg d) (Hi d) T):∀n∈T,n.kids.length<=1000001/\n.Sb.length<=1000000:=by
 intro n g;obtain⟨k,c,rfl⟩:=Zc g;have b:=e k c;rw[Gd _ _ _ c]at b;by_cases h:T[k].kids=[]
 {rw[h,(b.leaf h).2];simp}
 {have a:=b.inner h;have f:=hd.Uu _ a.2.2.1;have:=Vu _ _ a.2.2.2.2.2.1 f.2.1;omega}
theorem Uy(hd:Di d){f:Fo}(hw:Gk d f)(a:uv d f):∃M,Ce d.length (Fg d) (Hi d) (Ml d f) M/\(∀c,od d.length (Fg d) (Hi d) c->M 0 c=Fe d c f)/\0<(Ml d f).length/\(Ml d f).length<=20000/\
  ue (Ml d f) (Mc (Ml d f) (d.length+1) [] 0)=Ml d f:=by
 have g:=a.inv.made.yh (yv hd);have h:=a.root.lt;obtain⟨b,u,j⟩:=lj g.table h (f:=d.length+1) ja;have hlen:(Ml d f).length=(Mc (pk d f).1.1 (d.length+1) [] (pk d f).2).length:=by grind [Ml,ue]
 have hle:(Mc (pk d f).1.1 (d.length+1) [] (pk d f).2).length<=(pk d f).1.1.length:=by
  have:=Ac b.nodup (λy k=>List.mem_range.2 (b.inside y k))
  grind
 have e:=a.cap _ _ a.inv;refine⟨_,Kq g b,λc i=>?_,?_,ja,Bs g h ja⟩
 ·rw[j]
  show qg _ (pk d f).2 c=_
  rw[a.root.Lp c i];obtain⟨m,_,_,l⟩:=(Mj hw).from_
  grind
 grind
def Er(a:Int):Int->List Int->Bool
 | _,[]=>true
 | last,c::l=>if c<=last\/a<c then false else Er a c l
theorem bG(a:Int):∀(l:List Int) (last:Int),Er a last l=true↔He a last l
 | [],_=>⟨λ_=>trivial,λ_=>rfl⟩
 | c::l,last=>by{unfold Er He;rw[<-bG];(split);{constructor;{intro h;cases h};{intro h;omega}};{constructor;{intro h;exact⟨ja,ja,h⟩};{intro h;exact h.2.2}}}
def Nl(t:List Dn)(fact:Int):Option Int->List Int->Bool
 | _,[]=>true
 | p,k::l=>if k<0\/(t.length:Int)<=k\/p=some k\/((t.getD k.toNat Ka).kids≠[]/\(t.getD k.toNat Ka).fact<=fact)then false else Nl t fact (some k) l
theorem cG(t:List Dn)(fact:Int):∀(l:List Int) (p:Option Int),Nl t fact p l=true↔(match p with|none=>Dx l|some a=>Dx (a::l))/\∀k∈l,0<=k/\k.toNat<t.length/\((t.getD k.toNat Ka).kids≠[]->fact<(t.getD k.toNat Ka).fact)
 | [],p=>by
  grind [Nl,Dx]
 | k::l,p=>by
  unfold Nl;have g:=cG t fact l (some k)
  split
  ·next h=>
   constructor
   {intro h;cases h}
   {intro⟨b,c⟩;exfalso;obtain⟨i,j,d⟩:=c k (Wa ..);(rcases h with h|h|h|⟨h,m⟩);{omega};{omega};{subst h;exact b.1 rfl};{have:=d h;omega}}
  ·next h=>
   rw[g];constructor
   ·rintro⟨b,c⟩
    refine⟨?_,λx hx=>?_⟩
    ·cases p with
     | none=>exact b
     | some a=>exact⟨λe=>h (.inr (.inr (.inl (by rw[e])))),b⟩
    ·rcases List.mem_cons.1 hx with rfl|hx
     ·refine⟨ja,ja,λf=>?_⟩
      rcases(show fact<(t.getD x.toNat Ka).fact\/(t.getD x.toNat Ka).fact<=fact by omega)with q|q
      {exact q}
      {exact absurd (.inr (.inr (.inr ⟨f,q⟩))) h}
     {exact c x hx}
   {rintro⟨b,c⟩;refine⟨?_,λx hx=>c x (Pa _ hx)⟩;cases p with| none=>exact b| some a=>exact b.2}
def Bf(d:List Fa)(t:List Dn)(n:Dn):Bool:=
 if n.kids=[]then n.fact==0&& n.Sb.isEmpty
 else if n.leaf=true\/n.fact<0\/(d.length:Int)<=n.fact\/n.Sb=[]\/n.kids.length≠n.Sb.length+1 then false
 else Er (Hi d n.fact.toNat) (Fg d n.fact.toNat) n.Sb&& Nl t n.fact none n.kids
theorem dG{n:Dn}{i:Nat}(a:i<j):i<Rb j n↔(n.kids≠[]->i<n.fact.toNat):=by
 grind [Rb]
theorem Vy(d:List Fa)(t:List Dn)(n:Dn):Bf d t n=true↔Gq d.length (Fg d) (Hi d) t.length (λj=>Rb d.length (t.getD j Ka)) n:=by
 unfold Bf;by_cases h:n.kids=[]
 {rw[Ga h];simp only[Ib,Pc,List.isEmpty_iff];exact⟨λa=>⟨λ_=>a,λc=>absurd h c⟩,λa=>a.leaf h⟩}
 ·rw[if_neg h]
  split
  ·next g=>
   constructor
   ·grind
   ·intro a
    obtain⟨m,o,p,q,r,_⟩:=a.inner h
    grind
  ·next g=>
   have f:n.leaf=false:=by
    grind
   have b:0<=n.fact/\n.fact.toNat<d.length:=by omega
   rw[Ib,bG,cG]
   have y:∀k:Int,(n.fact.toNat<Rb d.length (t.getD k.toNat Ka)↔((t.getD k.toNat Ka).kids≠[]->n.fact<(t.getD k.toNat Ka).fact)):=by
    grind [dG]
   constructor
   {rintro⟨i,l,w⟩;refine⟨λc=>absurd c h,λ_=>⟨f,b.1,b.2,λe=>g (.inr (.inr (.inr (.inl e)))),?_,i,l,λk x=>?_⟩⟩;all_goals grind}
   ·intro a
    obtain⟨_,_,_,_,_,s,u,v⟩:=a.inner h
    grind
theorem kC(d:List Fa)(t:List Dn):t.all (Bf d t)=true↔Lg d.length (Fg d) (Hi d) t:=by
 rw[ee];constructor
 ·intro h k a
  grind [Vy,List.getElem_mem]
 ·intro h n b
  obtain⟨k,a,rfl⟩:=Zc b;have:=h k a
  grind [Vy]
def Fh(d:List Fa)(t:List Dn):Bool:=
 gf d&& !t.isEmpty&& decide (t.length<=20000)&& t.all (Bf d t)&& decide t.Nodup&& decide (ue t (Mc t (d.length+1) [] 0)=t)
structure Qc (d : List Fa) (t : List Dn) : Prop where
 dom:gf d=true
 pos:0<t.length
 Ar:t.length<=20000
 table:Lg d.length (Fg d) (Hi d) t
 nodup:t.Nodup
 again:ue t (Mc t (d.length+1) [] 0)=t
theorem Gh{d:List Fa}:Fh d T=true↔Qc d T:=by
 unfold Fh;simp only[Ib,decide_eq_true_iff,kC,Bool.not_eq_true',List.isEmpty_eq_false_iff];constructor
 {rintro⟨⟨⟨⟨⟨a,b⟩,c⟩,e⟩,f⟩,g⟩;exact⟨a,List.length_pos_iff.2 b,c,e,f,g⟩}
 {intro h;exact⟨⟨⟨⟨⟨h.dom,List.length_pos_iff.1 h.pos⟩,h.Ar⟩,h.table⟩,h.nodup⟩,h.again⟩}
def Uc(d:List Fa)(t:List Dn):Nat->(Nat->Int)->Bool:=ym t (d.length+1)
theorem Qc.yh(h:Qc d T):Ce d.length (Fg d) (Hi d) T (Uc d T):=qJ h.table h.nodup (yv (eh h.dom))
theorem Sw(a:gf d=true){f:Fo}(hw:Gk d f)(h:uv d f):Qc d (Ml d f):=by
 obtain⟨M,g,_,b,c,e⟩:=Uy (eh a) hw h;exact⟨a,b,c,g.table,g.nodup,e⟩
theorem Et{M f:Nat->(Nat->Int)->Bool}(a:Ce j g G T M)(i:Ce j g G T f):∀(N k:Nat),k<T.length->j-Rb j (T.getD k Ka)<=N->∀c,od j g G c->M k c=f k c:=by
 intro N
 induction N with
 | zero=>
  intro k b l c d;rw[a.reads k b c d,i.reads k b c d];by_cases h:(T.getD k Ka).kids=[]
  ·grind
  ·exfalso
   have:=((a.table k b).inner h).2.2.1
   grind [Rb]
 | succ N o=>
  intro k b l c d;rw[a.reads k b c d,i.reads k b c d];by_cases h:(T.getD k Ka).kids=[]
  ·grind
  ·rw[if_neg h,if_neg h]
   have e:=(a.table k b).inner h;obtain⟨m,b2,n⟩:=e.2.2.2.2.2.2.2 _ (mh (a.table k b) h (c (T.getD k Ka).fact.toNat))
   grind [Rb]
theorem fG(e:gf d=true){f:Fo}(hw:Gk d f)(c:uv d f)(b:od d.length (Fg d) (Hi d) g):Uc d (Ml d f) 0 g=Fe d g f:=by
 obtain⟨M,a,h,i,_⟩:=Uy (eh e) hw c;rw[<-h g b];exact Et (Sw e hw c).yh a _ 0 i (wa _) g b
theorem Xy{b:List Dn}(h:Qc d T)(a:Qc d b)(e:∀c,od d.length (Fg d) (Hi d) c->Uc d T 0 c=Uc d b 0 c):T=b:=by
 rw[<-h.again, <-a.again];exact Ft h.yh a.yh h.pos a.pos e _
end
section
open Go.RowKit
open Go.Sort (grow)
theorem SF{W:Ca}{v:Ea}{xs:List Int}(h:W.ownsRow j 3 1 v xs.length (xs.map iW)){ops:Array Oper}{K:Act->Ca->Prop}{Q:Exit->Act->Ca->Prop}{E:Prop}
  (c:M.guard=none) (s x:Operand) (k:M.op=.call {callee:=.builtin .append,args:=#[s,x],argTypes:=#[26,26]}) (hs:L.eval s=v) (b:Addr) (l:L.eval x=.slice (some b) 1 1) (d:j<=W.heap.size) (i:xs.length<=2000000) (n:Int) (f:W.cell? b=some (pa n))
  (e:∀g cap a,a.ownsRow j 3 1 (.slice (Nb g) (xs.length+1) cap) (xs++[n]).length ((xs++[n]).map iW)->W.grownBy a v.ownBlock->(v.ownBlock=some g\/g=W.heap.size)->K (L.put M.dst (.slice (Nb g) (xs.length+1) cap)) a):
  if Region.wanted M (yielded ops L.tmps)=true then Oper.wp prog M L W K Q else E:=by
 obtain⟨g,cap,a,m,o,p,q,_⟩:=Yy (.inl ⟨h,rfl⟩) d i b n f M.type;exact Rp c s x _ k _ _ hs l _ _ m (e g cap a o p q)
structure k7 (w0 : Ca) (K : Nat) (S : List Nat) (w6 : Ca) (r : (List Dn × List (Na × Nat)) × List Int) (kv : Ea) (wr : Ca) : Prop where
 st:Yk w0 K (Mg kv++S) r.1.1 r.1.2 wr
 VB:re K [] w6 wr
 own:wr.ownsRow w6.heap.size 3 1 kv r.2.length (r.2.map iW)
variable {w0 w6 wr w8 eJ : Ca} {K : Nat} {S : List Nat} {r : (List Dn × List (Na × Nat)) × List Int} {r' : List Dn × List (Na × Nat)} {kv v' : Ea}
theorem k7.fJ(h:k7 w0 K S w6 r kv wr)(a:Yk w0 K (Mg kv++S) r'.1 r'.2 w8/\re K [] wr w8)(o:Obj):(w8.alloc o).ownsRow w6.heap.size 3 1 kv r.2.length (r.2.map iW):=
 vt h.own (a.2.alloc o) ⟨Ba,Ba⟩ Aa
theorem k7.Zx(h:k7 w0 K S w6 r kv wr)(i:K+6<=w0.heap.size)(hw:w0.heap.size<=w6.heap.size)(c:Yk w0 K (Mg kv++S) r'.1 r'.2 w8/\re K [] wr w8){o:Obj}(j:(w8.alloc o).grownBy eJ kv.ownBlock){g:Nat}(l:v'.ownBlock=some g)(d:kv.ownBlock=some g\/g=(w8.alloc o).heap.size)
  {k:Int} (a:eJ.ownsRow w6.heap.size 3 1 v' (r.2++[k]).length ((r.2++[k]).map iW)):k7 w0 K S w6 (r',r.2++[k]) v' eJ:=by
 obtain⟨m,n⟩:=(c.1.below ((za _ _).alloc ja o)).Zx i (h.fJ c o) hw j l d;refine⟨m,?_,a⟩;refine(((h.VB.trans (c.2.alloc o)).more Aa).trans n).less λb f hlt=>?_
 have e:kv.ownBlock=some b:=by unfold Mg at f;simpa using f
 have:=(Yh h.own b e).1;omega
end
open Go.RowKit
section
theorem TM(W:Ca)(a:Nat)(d:List Fa)(e:Ea)(b:qb W a 24 #[e])(hd:Sa Jk 4 W W.heap.size d e)(m:Jh W.heap.size W):∃w0,w0=((((((W.alloc (.cells #[Ua,.map none] 114)).alloc (.cells #[Ma W.heap.size] 110)).alloc (.map #[] 0)).alloc (.cells #[.map (some (W.heap.size+1+1))] 87)).alloc (.cells #[.bool false] 4)).alloc (.cells #[.func (.func 104) #[] #[.pointer (some ⟨W.heap.size+1,0,none⟩),.pointer (some ⟨W.heap.size+4,0,none⟩),Ma a,Ma (W.heap.size+3),Ma (W.heap.size+5)]] 178))/\Y6 w0 W.heap.size a d e/\Yk w0 W.heap.size [] [] [] w0/\Da W.heap.size W w0/\w0.heap.size=W.heap.size+6:=by
 have c:Da _ W ((((((W.alloc (.cells #[Ua,.map none] 114)).alloc (.cells #[Ma W.heap.size] 110)).alloc (.map #[] 0)).alloc (.cells #[.map (some (W.heap.size+1+1))] 87)).alloc (.cells #[.bool false] 4)).alloc (.cells #[.func (.func 104) #[] #[.pointer (some ⟨W.heap.size+1,0,none⟩),.pointer (some ⟨W.heap.size+4,0,none⟩),Ma a,Ma (W.heap.size+3),Ma (W.heap.size+5)]] 178)):=((((((za _ _).alloc (wa _) _).alloc Aa _).alloc (by simp;omega) _).alloc (by simp;omega) _).alloc (by simp;omega) _).alloc (by simp;omega) _;have f:=(((((qb.new W 114 #[Ua,.map none]).alloc (.cells #[Ma W.heap.size] 110)).alloc (.map #[] 0)).alloc (.cells #[.map (some (W.heap.size+1+1))] 87)).alloc (.cells #[.bool false] 4)).alloc (.cells #[.func (.func 104) #[] #[.pointer (some ⟨W.heap.size+1,0,none⟩),.pointer (some ⟨W.heap.size+4,0,none⟩),Ma a,Ma (W.heap.size+3),Ma (W.heap.size+5)]] 178);have g:=((((qb.new (W.alloc (.cells #[Ua,.map none] 114)) 110 #[Ma W.heap.size]).alloc (.map #[] 0)).alloc (.cells #[.map (some (W.heap.size+1+1))] 87)).alloc (.cells #[.bool false] 4)).alloc (.cells #[.func (.func 104) #[] #[.pointer (some ⟨W.heap.size+1,0,none⟩),.pointer (some ⟨W.heap.size+4,0,none⟩),Ma a,Ma (W.heap.size+3),Ma (W.heap.size+5)]] 178);have h:=((qb.new (((W.alloc (.cells #[Ua,.map none] 114)).alloc (.cells #[Ma W.heap.size] 110)).alloc (.map #[] 0)) 87 #[.map (some (W.heap.size+1+1))]).alloc (.cells #[.bool false] 4)).alloc (.cells #[.func (.func 104) #[] #[.pointer (some ⟨W.heap.size+1,0,none⟩),.pointer (some ⟨W.heap.size+4,0,none⟩),Ma a,Ma (W.heap.size+3),Ma (W.heap.size+5)]] 178);have i:=(qb.new ((((W.alloc (.cells #[Ua,.map none] 114)).alloc (.cells #[Ma W.heap.size] 110)).alloc (.map #[] 0)).alloc (.cells #[.map (some (W.heap.size+1+1))] 87)) 4 #[.bool false]).alloc (.cells #[.func (.func 104) #[] #[.pointer (some ⟨W.heap.size+1,0,none⟩),.pointer (some ⟨W.heap.size+4,0,none⟩),Ma a,Ma (W.heap.size+3),Ma (W.heap.size+5)]] 178);have j:=qb.new (((((W.alloc (.cells #[Ua,.map none] 114)).alloc (.cells #[Ma W.heap.size] 110)).alloc (.map #[] 0)).alloc (.cells #[.map (some (W.heap.size+1+1))] 87)).alloc (.cells #[.bool false] 4)) 178 #[.func (.func 104) #[] #[.pointer (some ⟨W.heap.size+1,0,none⟩),.pointer (some ⟨W.heap.size+4,0,none⟩),Ma a,Ma (W.heap.size+3),Ma (W.heap.size+5)]]
 have l:(((((((W.alloc (.cells #[Ua,.map none] 114)).alloc (.cells #[Ma W.heap.size] 110)).alloc (.map #[] 0)).alloc (.cells #[.map (some (W.heap.size+1+1))] 87)).alloc (.cells #[.bool false] 4)).alloc (.cells #[.func (.func 104) #[] #[.pointer (some ⟨W.heap.size+1,0,none⟩),.pointer (some ⟨W.heap.size+4,0,none⟩),Ma a,Ma (W.heap.size+3),Ma (W.heap.size+5)]] 178))).heap[W.heap.size+2]? =some (.map #[] 0):=by
  grind [World.alloc_heap_new,World.size_alloc,Below.heap_alloc]
 simp at g h i j;refine⟨_,rfl,⟨g,h,i,j,b.below c,b.lt,Sa.below Jk.kept c hd,m.on c,Aa⟩,⟨re.refl _ _ _,⟨ja,⟨_,none,[],f,Ec _ _ _ _,rfl,Aa,.inl ⟨rfl,rfl⟩⟩,Aa⟩,?_,[],⟨#[],0,l,rfl⟩,λk=>rfl⟩,c,Aa⟩;rw[f.cell];simp
theorem Gt{w:Ca}{n c:Nat}(b:qb w j E #[.slice A n c]){a o:Nat}(h:w.cell? (Ja a o)=some (pa Z)):a≠j:=by
 rintro rfl;rw[b.cell]at h
 grind
theorem ints_set{w:Ca}{B:Nat}{n c:Nat}(m:qb w j E #[.slice A n c])(u:Ea){v:Ea}(h:IntsIn w B C v):IntsIn (w.setCell (Ya j) u) B C v:=by
 obtain⟨f,cap,rfl,g,k,l⟩:=h;refine⟨f,cap,rfl,g,k,λhne=>?_⟩;obtain⟨b,off,rfl,hlt,d⟩:=l hne;refine⟨b,off,rfl,hlt,λi e=>?_⟩;have a:=Gt m (d i e)
 show(w.setCell _ u).cell? _=_
 rw[World.cell?_of_block (Oc w _ u b a)];exact d i e
theorem Zd.set{w:Ca}{B:Nat}{n c:Nat}(d:qb w j E #[.slice A n c])(u:Ea){v:Ea}(h:Zd w B T v):Zd (w.setCell (Ya j) u) B T v:=by
 obtain⟨_,rfl,l,cap,rfl,q,r,s⟩:=h;refine⟨_,rfl,l,cap,rfl,q,r,λhne=>?_⟩;obtain⟨b,off,rfl,hlt,t⟩:=s hne;refine⟨b,off,rfl,hlt,λi x=>?_⟩;obtain⟨y,z,k,m,p,c3,f,g⟩:=t i x;have a:=Gt d k;have e:=λo=>World.cell?_of_block (a:=Ja b o) (Oc w (Ya j) u b a)
 exact⟨y,z,(e _).trans k,(e _).trans m,(e _).trans p,(e _).trans c3,ints_set d u f,ints_set d u g⟩
theorem Zd.nil(w:Ca)(B:Nat):Zd w B [] (.agg #[Ua]):=⟨_,rfl,none,0,rfl,wa _,ja,λh=>absurd rfl h⟩
attribute [local go_sem] kh
end
end Go.Proofs.YtdipkbobalnilaaGreatDoor
