/- The regions by their keys: where the map of keys leads. No program. -/
import Derived.Test.YtdipkbobalnilaaGreatDoorAl
import Derived.Shelf.SlSortCmp.Insertion
import Derived.Shelf.GgSortFunc.InsertionK
import Derived.Test.YtdipkbobalnilaaGreatDoorRkGA
namespace Go.Proofs.YtdipkbobalnilaaGreatDoor
open Go.Lib
variable{j:Nat}{T:List Dn}{Z:Int}{P:List Pv}{G:Nat->Int}
structure Jo where
 state:Int
 value:Int
 xh:List Na
 over:List Na
def fm(s:List UInt8):List UInt8:=itoa s.length++58::s
def Ej(a:Jo):List UInt8:=fm (itoa a.state)++(fm (itoa a.value)++(fm (itoa a.xh.length)++(a.xh++a.over).flatMap λs=>fm s.toList))
def Ap(a:Jo):Na:=⟨(Ej a).toArray⟩
theorem ku{s b r a:List UInt8}(h:fm s++r=fm b++a):s=b/\r=a:=by
 unfold fm at h;rw[Ic,Ic,Cc,Cc]at h;obtain⟨c,d⟩:=sE Ba h
 grind [List.append_inj]
theorem XL(s:List UInt8):fm s≠[]:=by unfold fm;simp
theorem BK{a b:Na}(h:a.toList=b.toList):a=b:=by
 grind [Hp]
theorem zH:∀ {l a:List Na},(l.flatMap λs=>fm s.toList)=(a.flatMap λs=>fm s.toList)->l=a
 | [],[],_=>rfl
 | [],s::a,h=>by
  grind [List.append_eq_nil_iff,XL]
 | s::l,[],h=>by
  grind [List.append_eq_nil_iff,XL]
 | s::l,d::a,h=>by{obtain⟨b,c⟩:=ku h;rw[BK b,zH c]}
theorem Yz{a b:Jo}(h:Ej a=Ej b):a=b:=by
 unfold Ej at h;obtain⟨e,h⟩:=ku h;obtain⟨f,h⟩:=ku h;obtain⟨g,h⟩:=ku h;have c:=zH h;have d:a.xh.length=b.xh.length:=by grind [Bn]
 obtain⟨i,j⟩:=List.append_inj c d;obtain⟨s,v,p,o⟩:=a;obtain⟨m,n,l,k⟩:=b
 grind [Bn]
theorem nS{a b:Jo}(h:Ap a=Ap b):a=b:=by
 have c:(Ej a).toArray=(Ej b).toArray:=congrArg ByteArray.data h
 grind [Yz]
section
abbrev Part:=List Dn×List Nat
abbrev Gi(d:List Fa)(c:Nat->Int):Prop:=od d.length (Fg d) (Hi d) c
def Qz(d:List Fa)(g:List Dn)(i:Nat)(x:Part):List Part:=
 (if(Ld d (Ae d x.1 g).1).isSome then[((Ae d x.1 g).1,x.2++[i])]else[])++(if(Ld d (Ae d x.1 (Hd g)).1).isSome then[((Ae d x.1 (Hd g)).1,x.2)]else[])
def lu(d:List Fa)(g:List Dn)(i:Nat):List Part->List Part->List Part×Int
 | [],out=>(out,0)
 | x::xs,out=>
  if(Ae d x.1 g).2=0 then(if(Ae d x.1 (Hd g)).2=0 then lu d g i xs (out++Qz d g i x)else([],(Ae d x.1 (Hd g)).2))
  else([],(Ae d x.1 g).2)
variable {d : List Fa} {A : Nat -> (Nat -> Int)-> Bool} {R : List Nat} {parts : List Part} {g : List Dn} {i : Nat}
theorem oS:∀(a out:List Part),(lu d g i a out).2=0->(lu d g i a out).1=out++a.flatMap (Qz d g i)/\∀x∈a,(Ae d x.1 g).2=0/\(Ae d x.1 (Hd g)).2=0
 | [],out,_=>by simp[lu]
 | x::a,out,h=>by{rw[lu]at h⊢;by_cases b:(Ae d x.1 g).2=0;{rw[Ga b]at h⊢;by_cases c:(Ae d x.1 (Hd g)).2=0;{rw[Ga c]at h⊢;obtain⟨f,j⟩:=oS a _ h;refine⟨by rw[f,Bc,Ic],λy e=>?_⟩;(rcases List.mem_cons.1 e with rfl|e);{exact⟨b,c⟩};{exact j y e}};{rw[if_neg c]at h;exact absurd h c}};{rw[if_neg b]at h;exact absurd h b}}
structure jl (d : List Fa) (A : Nat -> (Nat -> Int)-> Bool) (R : List Nat) (parts : List Part) : Prop where
 valid:∀x∈parts,Qc d x.1
 some:∀x∈parts,(Ld d x.1).isSome=true
 apart:parts.Pairwise λx y=>∀c,Gi d c->Uc d x.1 0 c=true->Uc d y.1 0 c=false
 all:∀c,Gi d c->∃x∈parts,Uc d x.1 0 c=true
 ids:∀x∈parts,∀c,Gi d c->Uc d x.1 0 c=true->x.2=R.filter λi=>A i c
theorem YL{x y:Part}(h:y∈Qz d g i x):((Ld d y.1).isSome=true)/\(y=((Ae d x.1 g).1,x.2++[i])\/y=((Ae d x.1 (Hd g)).1,x.2)):=by
 grind [Qz]
theorem mu(e:Qc d g){x:Part}(a:(Ae d x.1 g).2=0)(b:(Ae d x.1 (Hd g)).2=0){y:Part}(f:y∈Qz d g i x):Qc d y.1/\∀c,Gi d c->Uc d y.1 0 c=true->Uc d x.1 0 c=true/\y.2=(if Uc d g 0 c=true then x.2++[i]else x.2):=by
 obtain⟨_,_,l,j⟩:=Ai a;obtain⟨_,_,m,k⟩:=Ai b;obtain⟨_,h⟩:=Xh e;rcases(YL f).2 with rfl|rfl
 all_goals grind
theorem kl{t:List Dn}(h:Qc d t)(a:Uc d t 0 G=true):(Ld d t).isSome=true:=by
 grind [Ld,jz]
theorem jl.cut(h:jl d A R parts)(m:Qc d g)(u:∀c,Gi d c->Uc d g 0 c=A i c)(v:(lu d g i parts []).2=0):jl d A (R++[i]) (lu d g i parts []).1:=by
 obtain⟨e,l⟩:=oS parts [] v;rw[e,Tb];refine⟨λy j=>?_,λy j=>?_,List.pairwise_flatMap.2 ⟨λx f=>?_,h.apart.imp_of_mem ?_⟩,λc k=>?_,λy j c k n=>?_⟩
 ·obtain⟨x,f,j⟩:=List.mem_flatMap.1 j
  grind [mu]
 {obtain⟨x,f,j⟩:=List.mem_flatMap.1 j;exact(YL j).1}
 ·obtain⟨_,_,_,z⟩:=Ai (l x f).1
  obtain⟨_,_,_,B⟩:=Ai (l x f).2;obtain⟨_,w⟩:=Xh m;unfold Qz;rw[Xf];refine⟨by split<;>simp,by split<;>simp,λa s b p c k n=>?_⟩
  grind
 ·intro x y f j q a s b p c k n
  have o:=((mu m (l x f).1 (l x f).2 s).2 c k n).1;have r:=q c k o;cases t:Uc d b.1 0 c with
  | false=>rfl
  | true=>
   have C:=((mu m (l y j).1 (l y j).2 p).2 c k t).1
   grind
 ·obtain⟨x,f,t⟩:=h.all c k
  obtain⟨_,_,D,z⟩:=Ai (l x f).1;obtain⟨_,_,E,B⟩:=Ai (l x f).2;obtain⟨_,w⟩:=Xh m;cases p:Uc d g 0 c with
  | true=>
   have hw:Uc d (Ae d x.1 g).1 0 c=true:=by grind
   refine⟨((Ae d x.1 g).1,x.2++[i]),List.mem_flatMap.2 ⟨x,f,?_⟩,hw⟩
   grind [Qz,kl]
  | false=>
   have hw:Uc d (Ae d x.1 (Hd g)).1 0 c=true:=by grind
   refine⟨((Ae d x.1 _).1,x.2),List.mem_flatMap.2 ⟨x,f,?_⟩,hw⟩
   grind [Qz,kl]
 ·obtain⟨x,f,j⟩:=List.mem_flatMap.1 j
  obtain⟨o,r⟩:=(mu m (l x f).1 (l x f).2 j).2 c k n;rw[r,u c k,yd, <-h.ids x f c k o]
  grind
theorem zN{t:List Dn}(h:Qc d t)(e:∀c,Gi d c->Uc d t 0 c=true)(hs:(Ld d t).isSome=true):jl d A [] [(t,[])]:=
 ⟨λx a=>by grind,λx a=>by grind,Hg _ _,λc b=>⟨_,List.mem_singleton.2 rfl,e c b⟩,λx a c _ _=>by grind⟩
def Dm(d:List Fa)(a b:List Dn):List Dn×Int:=if(Ae d (Hd a) (Hd b)).2=0 then(Hd (Ae d (Hd a) (Hd b)).1,0)else([],(Ae d (Hd a) (Hd b)).2)
theorem kB{t:List Dn}(h:Qc d (Hd t)):Qc d t:=by
 grind [not_not,Xh]
theorem dW{a:List Dn}(h:(Dm d a T).2=0):Qc d (Dm d a T).1/\∀c,Gi d c->Uc d (Dm d a T).1 0 c=(Uc d a 0 c || Uc d T 0 c):=by
 unfold Dm at h⊢
 split at h
 ·next b=>
  obtain⟨e,f,v,r⟩:=Ai b
  grind [Xh,kB]
 omega
abbrev Fx:=List Dn×Jo
def mr(d:List Fa)(t:List Dn)(a:Jo):List Fx->List Fx×Int
 | []=>([(t,a)],0)
 | r::out=>if Ej r.2=Ej a then(if(Dm d r.1 t).2=0 then(((Dm d r.1 t).1,r.2)::out,0)else([],(Dm d r.1 t).2))else(if(mr d t a out).2=0 then(r::(mr d t a out).1,0)else([],(mr d t a out).2))
structure VC (d : List Fa) (out : List Fx) : Prop where
 valid:∀r∈out,Qc d r.1
 some:∀r∈out,(Ld d r.1).isSome=true
 apart:out.Pairwise λr s=>∀c,Gi d c->Uc d r.1 0 c=true->Uc d s.1 0 c=false
 diff:out.Pairwise λr s=>r.2≠s.2
structure S9 (d : List Fa) (t : List Dn) (a : Jo) (out OO : List Fx) : Prop where
 ok:VC d OO
 back:∀r∈OO,∀c,Gi d c->Uc d r.1 0 c=true->(∃s∈out,s.2=r.2/\Uc d s.1 0 c=true)\/(r.2=a/\Uc d t 0 c=true)
 fwd:∀c,Gi d c->((∃s∈out,Uc d s.1 0 c=true)\/Uc d t 0 c=true)->∃r∈OO,Uc d r.1 0 c=true
 xE:∀r∈OO,r.2=a\/∃s∈out,s.2=r.2
theorem DK{t:List Dn}(h:Qc d t)(hs:(Ld d t).isSome=true):∃c,Gi d c/\Uc d t 0 c=true:=by
 obtain⟨p,a⟩:=Option.isSome_iff_exists.1 hs;obtain⟨_,_,b,e,_⟩:=Yi h a
 grind
theorem pS{t:List Dn}{a:Jo}(n:Qc d t)(hs:(Ld d t).isSome=true):∀(out:List Fx),VC d out->(∀r∈out,∀c,Gi d c->Uc d r.1 0 c=true->Uc d t 0 c=false)->(mr d t a out).2=0->S9 d t a out (mr d t a out).1
 | [],_,_,_=>⟨⟨λr g=>by cases List.mem_singleton.1 g;exact n,λr g=>by cases List.mem_singleton.1 g;exact hs,Hg _ _,Hg _ _⟩,
   λr g c _ hc=>by cases List.mem_singleton.1 g;grind,λc _ h=>by
    rcases h with⟨s,hs,_⟩|h
    {cases hs}
    ·exact⟨_,List.mem_singleton.2 rfl,h⟩,λr g=>by cases List.mem_singleton.1 g;grind⟩
 | r::out,h,o,k=>by
  have j:VC d out:=⟨λx hx=>h.valid x (Pa _ hx),λx hx=>h.some x (Pa _ hx),(List.pairwise_cons.1 h.apart).2,(List.pairwise_cons.1 h.diff).2⟩;rw[mr]at k⊢;by_cases l:Ej r.2=Ej a
  ·rw[Ga l]at k⊢
   have u:=Yz l;by_cases i:(Dm d r.1 t).2=0
   ·rw[Ga i]
    obtain⟨v,w⟩:=dW i;refine⟨⟨λx hx=>?_,λx hx=>?_,List.pairwise_cons.2 ⟨λx hx c b hc=>?_,j.apart⟩,List.pairwise_cons.2 ⟨λx hx=>(List.pairwise_cons.1 h.diff).1 x hx,j.diff⟩⟩,λx hx c b hc=>?_,λc b hc=>?_,λx hx=>?_⟩
    {(rcases List.mem_cons.1 hx with rfl|hx);{exact v};{exact j.valid x hx}}
    ·rcases List.mem_cons.1 hx with rfl|hx
     ·grind [DK,kl]
     {exact j.some x hx}
    ·have hc:Uc d (Dm d r.1 t).1 0 c=true:=hc
     rw[w c b,Bg]at hc;rcases hc with hc|hc
     {exact(List.pairwise_cons.1 h.apart).1 x hx c b hc}
     grind
    all_goals grind [List.mem_cons_self]
   grind
  ·rw[if_neg l]at k⊢
   by_cases i:(mr d t a out).2=0
   ·rw[Ga i]
    have f:=pS (a:=a) n hs out j (λx hx=>o x (Pa _ hx)) i;refine⟨⟨λx hx=>?_,λx hx=>?_,List.pairwise_cons.2 ⟨λx hx c b hc=>?_,f.ok.apart⟩,List.pairwise_cons.2 ⟨λx hx e=>?_,f.ok.diff⟩⟩,λx hx c b hc=>?_,λc b hc=>?_,λx hx=>?_⟩
    {(rcases List.mem_cons.1 hx with rfl|hx);{exact h.valid x (Wa ..)};{exact f.ok.valid x hx}}
    {(rcases List.mem_cons.1 hx with rfl|hx);{exact h.some x (Wa ..)};{exact f.ok.some x hx}}
    ·cases m:Uc d x.1 0 c with
     | false=>rfl
     | true=>
      rcases f.back x hx c b m with⟨s,hs,_,h1⟩|⟨_,h1⟩
      {rw[(List.pairwise_cons.1 h.apart).1 s hs c b hc]at h1;cases h1}
      grind
    ·rcases f.xE x hx with h1|⟨s,hs,h1⟩
     ·grind
     {exact(List.pairwise_cons.1 h.diff).1 s hs (by rw[e,h1])}
    ·rcases List.mem_cons.1 hx with rfl|hx
     ·grind
     {(rcases f.back x hx c b hc with⟨s,hs,h1,y⟩|h1);all_goals grind}
    ·rcases hc with⟨s,hs,hc⟩|hc
     ·rcases List.mem_cons.1 hs with rfl|hs
      ·grind
      ·obtain⟨q,p,h1⟩:=f.fwd c b (.inl ⟨s,hs,hc⟩)
       grind
     ·obtain⟨q,p,h1⟩:=f.fwd c b (.inr hc)
      grind
    ·rcases List.mem_cons.1 hx with rfl|hx
     ·grind
     {(rcases f.xE x hx with h1|⟨s,hs,h1⟩);all_goals grind}
   grind
def ri(d:List Fa)(f:List Nat->Jo×Int):List Part->List Fx->List Fx×Int
 | [],out=>(out,0)
 | x::xs,out=>if(f x.2).2=0 then(if(mr d x.1 (f x.2).1 out).2=0 then ri d f xs (mr d x.1 (f x.2).1 out).1 else([],(mr d x.1 (f x.2).1 out).2))else([],(f x.2).2)
structure Ks (d : List Fa) (F : (Nat -> Int)-> Jo × Int) (regs : List Fx) : Prop where
 ok:VC d regs
 all:∀c,Gi d c->∃r∈regs,Uc d r.1 0 c=true
 xE:∀r∈regs,∀c,Gi d c->Uc d r.1 0 c=true->F c=(r.2,0)
theorem AH{f:List Nat->Jo×Int}{F:(Nat->Int)->Jo×Int}:∀(a:List Part) (out:List Fx),VC d out->(∀r∈out,∀c,Gi d c->Uc d r.1 0 c=true->F c=(r.2,0))->(∀r∈out,∀x∈a,∀c,Gi d c->Uc d r.1 0 c=true->Uc d x.1 0 c=false)->
  (∀x∈a,Qc d x.1)->(∀x∈a,(Ld d x.1).isSome=true)->(a.Pairwise λx y=>∀c,Gi d c->Uc d x.1 0 c=true->Uc d y.1 0 c=false)->(∀x∈a,∀c,Gi d c->Uc d x.1 0 c=true->F c=f x.2)->(ri d f a out).2=0->
  VC d (ri d f a out).1/\(∀r∈(ri d f a out).1,∀c,Gi d c->Uc d r.1 0 c=true->F c=(r.2,0))/\∀c,Gi d c->((∃r∈out,Uc d r.1 0 c=true)\/∃x∈a,Uc d x.1 0 c=true)->∃r∈(ri d f a out).1,Uc d r.1 0 c=true
 | [],out,m,o,_,_,_,_,_,_=>⟨m,o,λc _ h=>by
   rcases h with h|⟨x,B,_⟩
   {exact h}
   ·cases B⟩
 | x::a,out,m,o,v,p,q,w,z,k=>by
  rw[ri]at k⊢;by_cases t:(f x.2).2=0
  ·rw[Ga t]at k⊢
   by_cases n:(mr d x.1 (f x.2).1 out).2=0
   ·rw[Ga n]at k⊢
    have g:=pS (p x (Wa ..)) (q x (Wa ..)) out m (λr j=>v r j x (Wa ..)) n
    obtain⟨C,D,E⟩:=AH a _ g.ok (λr j c e i=>by
     rcases g.back r j c e i with⟨s,A,u,l⟩|⟨u,l⟩
     all_goals grind) (λr j y b c e i=>by
     rcases g.back r j c e i with⟨s,A,_,l⟩|⟨_,l⟩
     all_goals grind [List.pairwise_cons]) (λy b=>p y (Pa _ b)) (λy b=>q y (Pa _ b)) (List.pairwise_cons.1 w).2 (λy b=>z y (Pa _ b)) k
    refine⟨C,D,λc e h=>E c e ?_⟩;rcases h with h|⟨y,b,i⟩
    {exact .inl (g.fwd c e (.inl h))}
    ·rcases List.mem_cons.1 b with rfl|b
     {exact .inl (g.fwd c e (.inr i))}
     grind
   grind
  grind
theorem DR{f:List Nat->Jo×Int}(h:jl d A R parts)(e:(ri d f parts []).2=0):Ks d (λc=>f (R.filter λi=>A i c)) (ri d f parts []).1:=by
 obtain⟨j,k,l⟩:=AH parts [] ⟨λ_ h=>(by cases h),λ_ h=>(by cases h),Zg,Zg⟩ (λ_ h=>(by cases h)) (λ_ h=>(by cases h)) h.valid h.some h.apart (λx g c a b=>by rw[h.ids x g c a b]) e;exact⟨j,λc a=>l c a (.inr (h.all c a)),k⟩
theorem Ks.perm{F:(Nat->Int)->Jo×Int}{l i:List Fx}(h:Ks d F l)(b:l.Perm i):Ks d F i:=
 ⟨⟨λr a=>h.ok.valid r (b.mem_iff.2 a),λr a=>h.ok.some r (b.mem_iff.2 a),(b.pairwise_iff (λ{x y} f c g j=>by
   grind)).1 h.ok.apart,(b.pairwise_iff (λ{_ _} f e=>f e.symm)).1 h.ok.diff⟩,
  λc g=>by obtain⟨r,a,j⟩:=h.all c g;grind,λr a=>h.xE r (b.mem_iff.2 a)⟩
end
section
abbrev Zo:=List (Nat×List Dn)×Int
def uh(d:List Fa)(e:Int)(a b:List Dn):List Dn×Int:=if e=0 then Ae d a b else([],e)
def Pz(d:List Fa)(Zx:Nat->Zo->List Dn×Zo):List Nat->List Dn×Zo->List Dn×Zo
 | [],r=>r
 | k::ks,r=>Pz d Zx ks ((uh d (Zx k r.2).2.2 r.1 (Hd (Zx k r.2).1)).1,((Zx k r.2).2.1,(uh d (Zx k r.2).2.2 r.1 (Hd (Zx k r.2).1)).2))
def Yf(d:List Fa)(C:Nat->Fo)(E:Nat->List Nat):Nat->Nat->Zo->List Dn×Zo
 | 0,_,a=>([],a)
 | f+1,i,a=>
  match a.1.lookup i with
  | some g=>(g,a)
  | none=>
   if a.2=0 then
    ((Pz d (Yf d C E f) (E i) ((Nc d (C i)).1,(a.1,(Nc d (C i)).2))).1,(ins (Pz d (Yf d C E f) (E i) ((Nc d (C i)).1,(a.1,(Nc d (C i)).2))).2.1 i (Pz d (Yf d C E f) (E i) ((Nc d (C i)).1,(a.1,(Nc d (C i)).2))).1,(Pz d (Yf d C E f) (E i) ((Nc d (C i)).1,(a.1,(Nc d (C i)).2))).2.2))
   else([],a)
variable {d : List Fa} {C : Nat -> Fo} {E : Nat -> List Nat} {A : Nat -> (Nat -> Int)-> Bool}
def qS(d:List Fa)(A:Nat->(Nat->Int)->Bool)(i:Nat)(g:List Dn):Prop:=Qc d g/\∀c,Gi d c->Uc d g 0 c=A i c
def T9(d:List Fa)(A:Nat->(Nat->Int)->Bool)(a:Zo):Prop:=∀i g,a.1.lookup i=some g->qS d A i g
def rS(d:List Fa)(C:Nat->Fo)(E:Nat->List Nat)(A:Nat->(Nat->Int)->Bool)(f i:Nat):Prop:=
 ∀a:Zo,(Yf d C E f i a).2.2=0->a.2=0/\(T9 d A a->T9 d A (Yf d C E f i a).2/\qS d A i (Yf d C E f i a).1)
theorem TL{a:List Dn}(h:(uh d Z a T).2=0):Z=0/\(Ae d a T).2=0/\(uh d Z a T).1=(Ae d a T).1:=by
 grind [uh]
theorem pY{f:Nat}:∀(a:List Nat) (r:List Dn×Zo),(∀k∈a,rS d C E A f k)->(Pz d (Yf d C E f) a r).2.2=0->r.2.2=0/\∀X:(Nat->Int)->Bool,T9 d A r.2->(Qc d r.1/\∀c,Gi d c->Uc d r.1 0 c=X c)->
  T9 d A (Pz d (Yf d C E f) a r).2/\Qc d (Pz d (Yf d C E f) a r).1/\∀c,Gi d c->Uc d (Pz d (Yf d C E f) a r).1 0 c=(X c&& a.all λk=> !A k c)
 | [],r,_,h=>by
  grind [Pz]
 | k::a,r,e,h=>by
  rw[Pz]at h⊢;obtain⟨m,n⟩:=pY a _ (λx q=>e x (Pa _ q)) h;obtain⟨i,j,l⟩:=TL m;obtain⟨t,u⟩:=e k (Wa ..) r.2 i;refine⟨t,λX o p=>?_⟩;obtain⟨s,g⟩:=u o;obtain⟨_,_,v,w⟩:=Ai j;obtain⟨y,z,B⟩:=n (λc=>X c&& !A k c) s ⟨by grind,λc b=>by rw[l,w c b,p.2 c b,(Xh g.1).2 c b,g.2 c b]⟩
  grind
theorem Qq{c:Type}(k:Nat)(v:c)(j:Nat):∀l:List (Nat×c),(ins l k v).lookup j=if j=k then some v else l.lookup j
 | []=>by
  grind [ins]
 | (a,x)::l=>by{rw[ins];by_cases h:k=a;{subst h;by_cases b:j=k;{subst b;simp};{simp[List.lookup,b,beq_eq_false_iff_ne.2 b]}};{rw[if_neg (by simpa using h)];by_cases b:j=a;{subst b;rw[if_neg (λe=>h e.symm)];simp};{(have d:(j==a)=false:=by simpa using b);rw[Ab,Ab,d];exact Qq k v j l}}}
theorem CR(q:∀i c,Gi d c->A i c=(Fe d c (C i)&& (E i).all λk=> !A k c))(b:Nat->Nat)(m:∀i k,k∈E i->b k<b i):∀(f i:Nat),b i<f->rS d C E A f i
 | 0,_,h=>absurd h ja
 | f+1,i,x=>by
  intro o h;rw[Yf]at h⊢;cases l:o.1.lookup i with
  | some g=>{rw[l]at h;exact⟨h,λa=>⟨a,a i g l⟩⟩}
  | none=>
   rw[l]at h;simp only at h⊢;by_cases n:o.2=0
   ·rw[Ga n]at h⊢
    obtain⟨p,b2⟩:=pY _ _ (λk y=>CR q b m f k (by grind)) h;refine⟨n,λa=>?_⟩;obtain⟨u,_,v⟩:=yi p;obtain⟨s,t,z⟩:=b2 (λc=>Fe d c _) a ⟨u,v⟩;have r:qS d A i _:=⟨t,λc w=>by grind⟩;refine⟨λj g e=>?_,r⟩;rw[Qq]at e
    split at e
    ·grind
    {exact s j g e}
   grind
end
section
def Gn(d:List Fa)(g:List Dn)(i:Nat):Int->List Part->List Part->List Part×Int
 | e,[],out=>(out,e)
 | e,x::xs,out=>
  if(uh d (uh d e x.1 g).2 x.1 (Hd g)).2=0 then Gn d g i 0 xs (out++Qz d g i x)else([],(uh d (uh d e x.1 g).2 x.1 (Hd g)).2)
def Of(d:List Fa)(C:Nat->Fo)(E:Nat->List Nat)(n:Nat):List Nat->List Part×Zo->List Part×Zo
 | [],r=>r
 | i::R,r=>
  Of d C E n R (if(Gn d (Yf d C E n i r.2).1 i (Yf d C E n i r.2).2.2 r.1 []).2=0/\1000<(Gn d (Yf d C E n i r.2).1 i (Yf d C E n i r.2).2.2 r.1 []).1.length then([],((Yf d C E n i r.2).2.1,2))
   else((Gn d (Yf d C E n i r.2).1 i (Yf d C E n i r.2).2.2 r.1 []).1,((Yf d C E n i r.2).2.1,(Gn d (Yf d C E n i r.2).1 i (Yf d C E n i r.2).2.2 r.1 []).2)))
variable {d : List Fa} {C : Nat -> Fo} {E : Nat -> List Nat} {A : Nat -> (Nat -> Int)-> Bool} {g : List Dn} {i n : Nat}
theorem BH{a:List Dn}(b:Z≠0):uh d Z a T=([],Z):=by grind [uh]
theorem Mn{a:List Dn}:uh d 0 a T=Ae d a T:=by grind [uh]
theorem nu:∀(c out:List Part),Gn d g i 0 c out=lu d g i c out
 | [],_=>rfl
 | x::c,out=>by{rw[Gn,lu,Mn];by_cases a:(Ae d x.1 g).2=0;{rw[Ga a,a,Mn];by_cases b:(Ae d x.1 (Hd g)).2=0;{rw[Ga b,Ga b,nu]};{rw[if_neg b,if_neg b]}};{rw[if_neg a,BH a,if_neg a]}}
theorem Zz(b:Z≠0):∀a:List Part,Gn d g i Z a []=([],Z)
 | []=>rfl
 | x::a=>by grind [Gn,BH]
theorem sS{a:Zo}(b:a.2≠0):(Yf d C E n i a).2=a:=by
 cases n with
 | zero=>rfl
 | succ n=>
  grind [Yf]
theorem cm{a:Zo}(b:a.2≠0):∀R:List Nat,Of d C E n R ([],a)=([],a)
 | []=>rfl
 | i::R=>by{rw[Of];have c:(Yf d C E n i a).2=a:=sS b;simp only[c];rw[Zz b,if_neg (λh=>b h.1)];exact cm b R}
theorem tS(a out:List Part)(h:(Gn d g i Z a out).2≠0)(c:out=[]\/Z=0):(Gn d g i Z a out).1=[]:=by
 by_cases b:Z=0
 ·subst b
  rw[nu]at h⊢
  induction a generalizing out with
  | nil=>exact absurd rfl h
  | cons x a e=>
   grind [lu]
 grind [Zz]
theorem iH:∀(R S:List Nat) (r:List Part×Zo),(∀i∈R,rS d C E A n i)->jl d A S r.1->T9 d A r.2->(Of d C E n R r).2.2=0->r.2.2=0->jl d A (S++R) (Of d C E n R r).1
 | [],S,r,_,h,_,_,_=>by grind [Of]
 | i::R,S,r,e,h,l,a,q=>by{rw[Of]at a⊢;by_cases b:(Yf d C E n i r.2).2.2=0;{obtain⟨_,o⟩:=e i (Wa ..) r.2 b;obtain⟨p,g⟩:=o l;rw[b,nu]at a⊢;by_cases c:(lu d (Yf d C E n i r.2).1 i r.1 []).2=0;{by_cases m:1000<(lu d (Yf d C E n i r.2).1 i r.1 []).1.length;{rw[Ga ja,cm Aa]at a;exact absurd a Aa};{rw[if_neg (λh=>m h.2)]at a⊢;have:=iH R (S++[i]) ((lu d (Yf d C E n i r.2).1 i r.1 []).1,((Yf d C E n i r.2).2.1,(lu d (Yf d C E n i r.2).1 i r.1 []).2)) (λj k=>e j (Pa _ k)) (h.cut g.1 g.2 c) p a c;rwa[Ic]at this}};{have f:=tS r.1 [] (by rw[nu];exact c) (.inl rfl);rw[nu]at f;rw[if_neg (λh=>c h.1),f,cm c]at a;exact absurd a c}};{rw[Zz b,if_neg (λh=>b h.1),cm b]at a;exact absurd a b}}
end
open Go.Sort Go.Shelf
def cmpL:List Int->List Int->Int
 | [],[]=>0
 | [],_::_=> -1
 | _::_,[]=>1
 | x::a,y::b=>if x<y then-1 else if y<x then 1 else cmpL a b
theorem pu:∀a b:List Int,cmpL a b<0↔a<b
 | [],[]=>⟨λh=>absurd h Ba,λh=>absurd h (List.not_lt_nil _)⟩
 | [],_::_=>⟨λ_=>List.nil_lt_cons _ _,λ_=>by rw[cmpL];decide⟩
 | _::_,[]=>⟨λh=>absurd h (by rw[cmpL];decide),λh=>absurd h (List.not_lt_nil _)⟩
 | x::a,y::b=>by
  rw[cmpL,List.cons_lt_cons_iff, <-pu]
  split
  {next h=>exact⟨λ_=>.inl h,λ_=>Ba⟩}
  ·next h=>
   split
   {next c=>exact⟨λq=>absurd q Ba,λq=>ja⟩}
   {next c=>exact⟨λq=>.inr ja,λq=>by rcases q with q|q;exact absurd q h;exact q.2⟩}
theorem lH:∀a b:List Int,a.length=b.length->(Aj a b=true↔a<b)
 | [],[],_=>by simp[Aj]
 | [],_::_,h=>by simp at h
 | _::_,[],h=>by simp at h
 | x::a,y::b,h=>by{rw[Aj,List.cons_lt_cons_iff, <-lH a b (by simpa using h)];(split);{next e=>subst e;simp};{next e=>simp[e]}}
theorem I0{α:Type}(k:α->List Int):SWO (ltOf λx y=>cmpL (k x) (k y)) where
 irrefl x:=by unfold ltOf;rw[decide_eq_false_iff_not,pu];exact List.lt_irrefl _
 trans x y z h q:=by unfold ltOf at*;rw[decide_eq_true_iff,pu]at*;exact List.lt_trans h q
 ntrans x y z h q:=by unfold ltOf at*;rw[decide_eq_false_iff_not,pu,List.not_lt]at*;exact List.le_trans q h
section
variable {α : Type} [Inhabited α] {enc : α -> List Ea} {k : Nat}
theorem ME(b:∀x,(enc x).length=k)(d:0<k):∀(c:List α) (t:Nat),t<c.length*k->(c.flatMap enc)[t]? =some ((enc (c[t / k]!))[t % k]!)
 | [],t,h=>by simp at h
 | x::c,t,h=>by{rw[Bc];(rcases td t k with a|a);{rw[te (by rw[b];exact a),Nat.div_eq_of_lt a,Nat.mod_eq_of_lt a];(have:t<(enc x).length:=by rw[b];exact a);simp[this]};{obtain⟨s,rfl⟩:∃s,t=s+k:=⟨t-k,ja⟩;rw[Td (by rw[b];exact a),b,qf,ME b d c s (by simp[Nat.succ_mul]at h;omega)];simp[Nat.add_div_right _ d]}}
theorem CH(f:∀x,(enc x).length=k)(c:0<k)(a:List α):(flatK enc k a.toArray).toList=a.flatMap enc:=by
 apply List.ext_getElem?
 intro t;by_cases b:t<a.length*k
 {rw[ME f c a t b];(have d:t<(flatK enc k a.toArray).size:=by simpa using b);have e:=get_flatK enc k a.toArray t (by simpa using b);rw[Qf,fg d, <-getElem!_pos,e];simp}
 ·have g:(a.flatMap enc).length=a.length*k:=by
   clear b
   induction a with| nil=>simp| cons x a h=>grind
  simp_all
theorem eW(i:∀x,(enc x).length=k)(f:0<k){w:Ca}{g:Nat}{b:Array Ea}{e:TypeId}{a:List α}(d:w.heap[g]? =some (.cells b e (0,0)))(l:b.toList.take (a.length*k)=a.flatMap enc):HoldsK enc k w g 0 a.toArray:=by
 intro j m;have hj':j<a.length*k:=by simp_all
 refine⟨?_,by simp[World.frozen?,d]⟩;have c:(b.toList.take (a.length*k))[j]? =(a.flatMap enc)[j]? :=by rw[l]
 rw[Ue hj',ME i f a j hj']at c;have h:=get_flatK enc k a.toArray j (by simpa using hj');simp only[World.cell?,d,Vb];rw[<-Qf,c,h]
 simp
theorem fx{w:Ca}{g n:Nat}{e:TypeId}{b:Array Obj}{a:Array Ea}{d:Array α}(c:w.heap[g]? =some (.cells a e (0,0))):(sortWorldK enc k w g 0 n d b).heap[g]? =some (.cells (putCells id 0 (flatK enc k d) a) e (0,0)):=by
 grind [Array.getElem?_eq_some_iff,sortWorldK,putRowK,Go.Sort.heap_grow_old,putRow,mapBlock,Sort.ahead,onCells]
theorem NE(c:∀x,(enc x).length=k)(b:0<k){d:Array α}{a:Array Ea}{u:Ea}(h:(putCells id 0 (flatK enc k d) a)[j]? =some u):u∈d.toList.flatMap enc\/a[j]? =some u:=by
 have e:(flatK enc k d).toList=d.toList.flatMap enc:=by have:=CH c b d.toList;omega
 grind [putCells]
theorem U9(l:∀x,(enc x).length=k)(f:0<k){w:Ca}{g cap n m:Nat}{e:TypeId}{os:Array Obj}{a:Array Ea}{ts:List α}(o:ts.length=m)(b:j<=g)(i:w.heap[g]? =some (.cells a e (0,0)))
  (c:m<=cap) (h:cap<=maxLen) (d:a.size=cap*k):(sortWorldK enc k w g 0 n ts.toArray os).ownsRow j e k (.slice (Nb g) m cap) m (ts.flatMap enc):=by
 have hF:=CH l f ts;have hsz:(flatK enc k ts.toArray).size=m*k:=by simp[o]
 refine⟨?_,.inr ⟨g,cap,_,rfl,b,fx i,c,h,by simp[putCells,d],?_⟩⟩
 ·grind
 ·rw[<-hF, <-hsz]
  generalize flatK enc k _=F at hsz⊢;have p:F.size<=a.size:=by rw[hsz,d];exact ie k c
  apply List.ext_getElem?
  grind [putCells]
theorem Ms{w:Ca}{g n:Nat}{d:Array α}{a:Array Obj}(b:j<w.heap.size)(hne:j≠g):(sortWorldK enc k w g 0 n d a).heap[j]? =w.heap[j]? :=by
 grind [sortWorldK,putRowK,Go.Sort.heap_grow_old,putRow,mapBlock,Sort.ahead]
theorem uq{w:Ca}{g n:Nat}{d:Array α}{a:Array Obj}:w.heap.size<=(sortWorldK enc k w g 0 n d a).heap.size:=by simp[sortWorldK,putRowK,grow]
theorem qu{w:Ca}{g n:Nat}{d:Array α}{a:Array Obj}(c:j<=w.heap.size)(f:j<=g):Go.RowKit.Below j w (sortWorldK enc k w g 0 n d a):=
 ⟨rfl,rfl,rfl,uq,λb e=>Ms ja ja⟩
theorem sorted_perm{c:α->α->Int}{d a:Array α}(f:PermIn 0 d.size d a)(hs:SortedIn (ltOf c) 0 d.size a):a.toList.Perm d.toList/\a.toList.Pairwise λx y=>¬c y x<0:=by
 obtain⟨h,_,k⟩:=f;refine⟨?_,List.pairwise_iff_getElem.2 λi j m n b=>?_⟩
 {(have g:a.extract 0 d.size=a:=by grind);simp_all}
 ·have e:i<a.size:=by omega
  have hj':j<a.size:=by omega
  have l:=hs i j (Lb _) b ja
  grind [ltOf]
end
theorem lB{w a:Ca}(h:Go.RowKit.Below w.heap.size w a)(hd:w.drawn<=a.drawn):∃q b,a=grow (w.drewN q) b:=by
 obtain⟨d,e,f,j,k⟩:=h;refine⟨a.drawn-w.drawn,a.heap.extract w.heap.size a.heap.size,?_⟩;obtain⟨H,t,i,b,o⟩:=w;obtain⟨g,m,c,os',l⟩:=a;subst d e f;simp only[grow,World.drewN,World.mk.injEq,and_true,true_and]
 grind
def aA:List Int->Int×Int->Int×Int
 | [],s=>s
 | v::vs,s=>aA vs (if s.1=0 then(1,v)else if s.1=1/\s.2≠v then(2,0)else s)
def Qi:Jo:=⟨0,0,[],[]⟩
def Tk(a:List Na)(s:Int×Int)(p:Pv):Int×Int:=if xi a p.id=false then s else if s.1=0 then(1,p.value)else if s.1=1/\s.2≠p.value then(2,0)else s
theorem Tv(a:List Na):∀(b:List Pv) (s:Int×Int),b.foldl (Tk a) s=aA ((b.filter λp=>xi a p.id).map (·.value)) s
 | [],s=>rfl
 | p::b,s=>by{rw[Nd,Tv,Jc];cases h:xi a p.id with| false=>{(have:Tk a s p=s:=by unfold Tk;rw[Ga h]);rw[this,if_neg Aa]}| true=>{(have:Tk a s p=if s.1=0 then(1,p.value)else if s.1=1/\s.2≠p.value then(2,0)else s:=by unfold Tk;rw[if_neg (by rw[h];simp)]);rw[this,Ga rfl,Eb,aA]}}
def Rh(d:List Fa)(a:List Pv)(b:List Int)(ids:List Na):Jo×Int:=
 if(Je d a b ids).2=0 then(⟨(a.foldl (Tk (Je d a b ids).1) (0,0)).1,(a.foldl (Tk (Je d a b ids).1) (0,0)).2,(Je d a b ids).1,ids.filter λs=> !xi (Je d a b ids).1 s⟩,0)
 else(Qi,(Je d a b ids).2)
def Ek(q:Na)(p:Pv):Bool:=decide (p.kind=2)&& Lh p.name q
def bB(a:List Pv)(q:Na)(ids:List Na):List Na:=(a.filter λp=>Ek q p&& xi ids p.id).map (·.id)
theorem fW{d:List Fa}{a:List Int}{ids:List Na}(h:(Rh d P a ids).2≠0):(Rh d P a ids).1=Qi:=by
 grind [Rh]
theorem uS{d:List Fa}{a:List Int}{ids:List Na}(h:(Rh d P a ids).2=0):(Je d P a ids).2=0/\(Rh d P a ids).1.xh=(Je d P a ids).1/\(Rh d P a ids).1.over=ids.filter (λs=> !xi (Je d P a ids).1 s)/\
  ((Rh d P a ids).1.state,(Rh d P a ids).1.value)=aA ((P.filter λp=>xi (Je d P a ids).1 p.id).map (·.value)) (0,0):=by
 unfold Rh at h⊢
 split at h
 {next b=>rw[Ga b];exact⟨b,rfl,rfl,by rw[<-Tv]⟩}
 {next b=>exact absurd h b}
theorem OV{d:List Fa}{a:List Int}(h:(Je d P a []).2=0):Rh d P a []=(Qi,0):=by
 obtain⟨l,b⟩:=DH h;have e:(Je d P a []).1=[]:=by rw[b.eq,b.some.2 rfl];rfl
 have c:P.foldl (Tk []) (0,0)=(0,0):=by{(have q:(P.filter λp=>xi [] p.id)=[]:=List.filter_eq_nil_iff.2 λ_ _=>by simp[xi]);rw[Tv,q];rfl}
 unfold Rh;rw[Ga h,e,c]
 rfl
section
def Jm(n:Nat):List Fx->List (Na×Int)
 | []=>[]
 | r::out=>(Ap r.2,(n:Int))::Jm (n+1) out
variable {d : List Fa} {t : List Dn} {a : Jo}
theorem EH{a b:Jo}:(Ap a==Ap b)=true↔Ej b=Ej a:=by
 grind [nS,Yz]
theorem FH:∀(n:Nat) (out:List Fx),((Jm n out).lookup (Ap a)=none/\mr d t a out=(out++[(t,a)],0))\/
  ∃(i:Nat) (h:i<out.length),(Jm n out).lookup (Ap a)=some ((n+i:Nat):Int)/\mr d t a out=if(Dm d out[i].1 t).2=0 then(out.set i ((Dm d out[i].1 t).1,out[i].2),0)else([],(Dm d out[i].1 t).2)
 | n,[]=>.inl ⟨rfl,rfl⟩
 | n,r::out=>by
  by_cases h:Ej r.2=Ej a
  {right;refine⟨0,Nat.zero_lt_succ _,?_,?_⟩;{rw[Jm,Ab,EH.2 h];rfl};{rw[mr,Ga h];rfl}}
  ·have g:(Ap a==Ap r.2)=false:=by
    cases e:(Ap a==Ap r.2)with| false=>rfl| true=>exact absurd (EH.1 e) h
   rw[Jm,Ab,g,mr,if_neg h];rcases FH (n+1) out with⟨c,f⟩|⟨i,j,c,f⟩
   {left;rw[f];exact⟨c,Aa⟩}
   {right;refine⟨i+1,Nat.succ_lt_succ j,?_,?_⟩;{simp only;rw[c];congr 2;omega};{rw[f];simp;by_cases b:(Dm d out[i].1 t).2=0;{rw[Ga b,Ga b];simp};{rw[if_neg b,if_neg b,if_neg b]}}}
theorem GH(x:Fx):∀(n:Nat) (out:List Fx),Jm n (out++[x])=Jm n out++[(Ap x.2,((n+out.length:Nat):Int))]
 | n,[]=>rfl
 | n,r::out=>by rw[Cc,Jm,Jm,GH x (n+1) out,Cc,Qb,show n+1+out.length=n+(out.length+1) by omega]
theorem JH(x:List Dn):∀(n:Nat) (out:List Fx) (i:Nat) (h:i<out.length),Jm n (out.set i (x,out[i].2))=Jm n out
 | n,r::out,0,_=>rfl
 | n,r::out,i+1,h=>by rw[List.set_cons_succ,Jm,Jm];exact congrArg _ (JH x _ out i (by simpa using h))
end
end Go.Proofs.YtdipkbobalnilaaGreatDoor
