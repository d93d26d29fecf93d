/- Plain core of chapter 11: Build makes no more nodes than a formula has cells, and two leaves. No program. -/
import Derived.Test.YtdipkbobalnilaaGreatDoorAl
import Derived.Test.YtdipkbobalnilaaGreatDoorDgTM
import Derived.Test.YtdipkbobalnilaaGreatDoorFactA
namespace Go.Proofs.YtdipkbobalnilaaGreatDoor
variable{j:Nat}{T:List Dn}{Z:Int}{F:Fo}
def We:Na:=⟨#[]⟩
def Ei(b:Bool):Fo:=.mk (if b then 1 else 2) We 0 0 []
def Fj(f:Fo):Option Bool:=if f.op=1 then some true else if f.op=2 then some false else none
def Pk(b unit zero:Int)(l:List Fo):Fo:=
 match l.find? (λk=>k.op==zero)with
 | some k=>k
 | none=>match l.filter (λk=>k.op !=unit)with
  | []=>.mk unit We 0 0 []
  | [k]=>k
  | a=>.mk b We 0 0 a
def pv(k:Fo):Fo:=match Fj k with|some b=>Ei (!b)|none=>.mk 5 We 0 0 [k]
mutual
def Sg(d:Na)(v:Int):Fo->Fo
 | .mk a s c n b=>
  if a=3 then(if Lh s d then Ei (Ol v c n)else .mk a s c n b)
  else if a=5 then pv ((TA d v b).headD Ka)
  else if a=6 then Pk 6 1 2 (TA d v b)
  else if a=7 then Pk 7 2 1 (TA d v b)
  else .mk a s c n b
def TA(a:Na)(v:Int):List Fo->List Fo
 | []=>[]
 | k::ks=>Sg a v k::TA a v ks
end
theorem Dt(b:Na)(v:Int):∀a,TA b v a=a.map (Sg b v)
 | []=>rfl
 | k::a=>by rw[TA,Eb,Dt]
mutual
def Fe(d:List Fa)(c:Nat->Int):Fo->Bool
 | .mk a s m n b=>
  if a=3 then Ol (c (ki d s).toNat) m n
  else if a=5 then !((Bm d c b).headD false)
  else if a=6 then(Bm d c b).all id
  else if a=7 then(Bm d c b).any id
  else a==1
def Bm(d:List Fa)(c:Nat->Int):List Fo->List Bool
 | []=>[]
 | k::ks=>Fe d c k::Bm d c ks
end
theorem qn(d:List Fa)(c:Nat->Int):∀a,Bm d c a=a.map (Fe d c)
 | []=>rfl
 | k::a=>by rw[Bm,Eb,qn]
mutual
def Gk(d:List Fa):Fo->Prop
 | .mk a s c n b=>((a=1\/a=2)/\s=We/\c=0/\n=0/\b=[])\/
   (a=3/\(1<=c/\c<=6)/\(0<=n/\n<=1000000)/\Oe s=true/\(∃k:Nat,ki d s=k/\k<d.length)/\b=[])\/
   ((a=5/\b.length=1\/(a=6\/a=7)/\2<=b.length)/\s=We/\c=0/\n=0/\YT d b)
def YT(d:List Fa):List Fo->Prop
 | []=>True
 | k::ks=>Gk d k/\YT d ks
end
theorem Si(d:List Fa):∀a,YT d a↔∀k∈a,Gk d k
 | []=>by simp[YT]
 | k::a=>by simp[YT,Si d a]
mutual
def aU:Fo->Prop
 | .mk a _ _ _ b=>a≠1/\a≠2/\BX b
def BX:List Fo->Prop
 | []=>True
 | k::ks=>aU k/\BX ks
end
theorem vL:∀a,BX a↔∀k∈a,aU k
 | []=>by simp[BX]
 | k::a=>by simp[BX,vL a]
def xJ(f:Fo):Prop:=Fj f≠none\/aU f
mutual
def Ud:Fo->List (Na×Int×Int)
 | .mk b s c n a=>(if b=3 then[(s,c,n)]else[])++Dd a
def Dd:List Fo->List (Na×Int×Int)
 | []=>[]
 | k::ks=>Ud k++Dd ks
end
theorem Sl:∀a t,t∈Dd a↔∃k∈a,t∈Ud k
 | [],t=>by simp[Dd]
 | k::a,t=>by simp[Dd,Sl a t]
theorem zv(b:Bool):Fj (Ei b)=some b:=by cases b<;>rfl
theorem tl(d:List Fa)(c:Nat->Int)(b:Bool):Fe d c (Ei b)=b:=by grind [Ei,Fe]
theorem Zy(d:List Fa)(b:Bool):Gk d (Ei b):=by
 grind [Ei,Gk]
theorem Tp(b:Bool):Ud (Ei b)=[]:=by grind [Ei,Ud,Dd]
theorem fE{d:List Fa}{f:Fo}{b:Bool}(h:Gk d f)(e:Fj f=some b):f=Ei b:=by
 obtain⟨a,s,c,n,g⟩:=f
 change(if a=1 then some true else if a=2 then some false else none)=some b at e
 rw[Gk]at h
 have hop:a=1/\b=true\/a=2/\b=false:=by
  grind
 rcases h with⟨_,rfl,rfl,rfl,rfl⟩|⟨h,_⟩|⟨h,_⟩
 {rcases hop with⟨rfl,rfl⟩|⟨rfl,rfl⟩<;>rfl}
 {omega}
 {omega}
theorem Xu{f:Fo}:Fj f=none↔f.op≠1/\f.op≠2:=by
 grind [Fj]
theorem yJ{f:Fo}(h:xJ f)(a:Fj f=none):aU f:=h.elim (λh=>absurd a h) id
theorem WU{d:List Fa}(h:Gk d F)(e:xJ F):Gk d (pv F)/\xJ (pv F)/\(∀c,Fe d c (pv F)= !Fe d c F)/\∀t∈Ud (pv F),t∈Ud F:=by
 unfold pv;cases a:Fj F with| some b=>{have:=fE h a;subst this;refine⟨Zy _ _,.inl (by rw[zv];simp),λc=>by grind [tl],λt f=>by grind [Tp]⟩}| none=>{refine⟨?_,.inr ?_,?_,?_⟩;all_goals grind [Gk,YT,aU,BX,yJ,Fe,Bm,Ud,Dd]}
theorem yQ{d:List Fa}(hop:Z=6\/Z=7){l:List Fo}(h:∀k∈l,Gk d k)(v:∀k∈l,xJ k):
  let u:=if Z=6 then 1 else 2;let z:=if Z=6 then 2 else 1
  Gk d (Pk Z u z l)/\xJ (Pk Z u z l)/\(∀c,Fe d c (Pk Z u z l)=if Z=6 then(l.map (Fe d c)).all id else(l.map (Fe d c)).any id)/\∀t∈Ud (Pk Z u z l),∃k∈l,t∈Ud k:=by
 intro u z
 have r:∀k∈l,k.op=z->∀c,Fe d c k=decide (Z≠6):=by
  intro k f o c
  have i:Fj k=some (decide (Z≠6)):=by
   grind [Fj]
  rw[fE (h k f) i,tl]
 have q:∀k∈l,k.op=u->∀c,Fe d c k=decide (Z=6):=by
  intro k f n c
  have i:Fj k=some (decide (Z=6)):=by
   grind [Fj]
  rw[fE (h k f) i,tl]
 unfold Pk;cases s:l.find? (λk=>k.op==z)with
 | some k=>
  grind [List.mem_map_of_mem]
 | none=>
  have p:∀k∈l,k.op≠z:=by
   grind
  have hval:∀c,(if Z=6 then(l.map (Fe d c)).all id else(l.map (Fe d c)).any id)=
    if Z=6 then((l.filter (λk=>k.op !=u)).map (Fe d c)).all id else((l.filter (λk=>k.op !=u)).map (Fe d c)).any id:=by
   grind
  have e:∀k∈l.filter (λk=>k.op !=u),k∈l/\aU k:=by
   grind [yJ,Xu]
  revert hval e;generalize l.filter (λk=>k.op !=u)=m;intro hval e
  match m,hval,e with
  | [],hval,_=>
   have j:(Fo.mk u We 0 0 [])=Ei (decide (Z=6)):=by rcases hop with rfl|rfl<;>rfl
   rw[j];refine⟨Zy _ _,.inl (by rw[zv];simp),λc=>?_,λt g=>by grind [Tp]⟩
   grind [tl]
  | [k],hval,e=>
   grind
  | a::b::ks,hval,e=>{dsimp only;refine⟨?_,.inr ?_,λc=>?_,λt g=>?_⟩;{rw[Gk];refine .inr (.inr ⟨.inr ⟨hop,Aa⟩,rfl,rfl,rfl,?_⟩);rw[Si];exact λk f=>h k (e k f).1};{rw[aU,vL];exact⟨ja,ja,λk f=>(e k f).2⟩};{rw[hval,Fe,qn];(rcases hop with rfl|rfl);{rw[if_neg Ba,if_neg Ba,Ga rfl,Ga rfl]};{rw[if_neg Ba,if_neg Ba,if_neg Ba,Ga rfl,if_neg Ba]}};{rw[Ud,if_neg ja,Tb,Sl]at g;obtain⟨k,f,g⟩:=g;exact⟨k,(e k f).1,g⟩}}
theorem gy(d:List Fa)(a:Na)(v:Int):∀(N:Nat) (f:Fo),f.size<=N->Gk d f->
  Gk d (Sg a v f)/\xJ (Sg a v f)/\
  (∀c,(∀t∈Ud f,t.1=a->Ol v t.2.1 t.2.2=Ol (c (ki d a).toNat) t.2.1 t.2.2)->Fe d c (Sg a v f)=Fe d c f)/\
  ∀t∈Ud (Sg a v f),t∈Ud f/\t.1≠a:=by
 intro N
 induction N with
 | zero=>intro f h;have:=f.size_pos;omega
 | succ N J=>
  intro f P hw;obtain⟨g,s,c,n,i⟩:=f
  have w:∀k∈i,k.size<=N:=by
   grind [List.getElem_of_mem,Fo.Eh,Fo.size]
  rw[Gk]at hw;rcases hw with⟨u,rfl,rfl,rfl,rfl⟩|⟨rfl,u,L,M,O,rfl⟩|⟨u,rfl,rfl,rfl,m⟩
  ·have hne:g≠3/\g≠5/\g≠6/\g≠7:=by omega
   have q:Sg a v (.mk g We 0 0 [])=.mk g We 0 0 []:=by
    grind [Sg]
   rw[q];refine⟨by grind [Gk],.inl ?_,λ_ _=>rfl,λt e=>?_⟩
   all_goals grind [Xu,Fo.op,Ud,Dd]
  {rw[Sg,Ga rfl];by_cases E:Lh s a=true;{rw[Ga E];(have z:s=a:=by grind [Lh,Hp]);subst z;refine⟨Zy _ _,.inl (by rw[zv];simp),λK p=>?_,λt e=>by grind [Tp]⟩;rw[tl,Fe,Ga rfl];exact p (s,c,n) (by simp[Ud]) rfl};{rw[if_neg E];refine⟨by grind [Gk],.inr ?_,λ_ _=>rfl,λt e=>⟨e,?_⟩⟩;all_goals grind [aU,BX,Ud,Dd,Lh]}}
  ·have m:=(Si d i).1 m
   have r:=λk b=>J k (w k b) (m k b)
   have j:∀ {o:Int} (_:o≠3) t,t∈Ud (.mk o We 0 0 i)↔∃k∈i,t∈Ud k:=by{intro o I t;rw[Ud,if_neg I,Tb,Sl]}
   rcases u with⟨rfl,y⟩|⟨hop,G⟩
   ·obtain⟨k,rfl⟩:=List.length_eq_one_iff.1 y
    have q:Sg a v (.mk 5 We 0 0 [k])=pv (Sg a v k):=by
     grind [Sg,TA]
    rw[q];have b:=r k Aa;obtain⟨B,C,D,F⟩:=WU b.1 b.2.1;refine⟨B,C,λc p=>?_,λt e=>?_⟩
    {rw[D,b.2.2.1 c (λt e=>p t ((j Ba t).2 ⟨k,Aa,e⟩)),Fe];simp[Bm]}
    grind
   ·have q:Sg a v (.mk g We 0 0 i)=Pk g (if g=6 then 1 else 2) (if g=6 then 2 else 1) (i.map (Sg a v)):=by
     rw[Sg,if_neg ja,if_neg ja];rcases hop with rfl|rfl
     {rw[Ga rfl,Ga rfl,Ga rfl,Dt]}
     {rw[if_neg Ba,Ga rfl,if_neg Ba,if_neg Ba,Dt]}
    rw[q];obtain⟨B,C,D,F⟩:=yQ (d:=d) hop (l:=i.map (Sg a v)) (λx A=>by grind) (λx A=>by grind);refine⟨B,C,λc p=>?_,λt e=>?_⟩
    {rw[D,Ze];have H:i.map (Fe d c∘Sg a v)=i.map (Fe d c):=by{(refine Ch λk b=>?_);exact(r k b).2.2.1 c (λt e=>p t ((j ja t).2 ⟨k,b,e⟩))};rw[H,Fe,qn];(rcases hop with rfl|rfl);{rw[Ga rfl,if_neg Ba,if_neg Ba,Ga rfl]};{rw[if_neg Ba,if_neg Ba,if_neg Ba,if_neg Ba,Ga rfl]}}
    {obtain⟨x,A,e⟩:=F t e;obtain⟨k,b,rfl⟩:=List.mem_map.1 A;have:=(r k b).2.2.2 t e;exact⟨(j ja t).2 ⟨k,b,this.1⟩,this.2⟩}
theorem zQ(d:List Fa):∀(N:Nat) (f:Fo),f.size<=N->Gk d f->aU f->Ud f≠[]:=by
 intro N
 induction N with
 | zero=>intro f h;have:=f.size_pos;omega
 | succ N j=>
  intro f i hw e;obtain⟨m,s,c,n,b⟩:=f;rw[Gk]at hw;rw[aU]at e;rcases hw with⟨a,_⟩|⟨rfl,_⟩|⟨a,_,_,_,g⟩
  {omega}
  ·grind [Ud]
  ·obtain⟨k,l,rfl⟩:∃k l,b=k::l:=by
    cases b with| nil=>simp at a| cons k l=>grind
   grind [YT,BX,Fo.size,Fo.Cd,Ud,List.append_eq_nil_iff,Dd]
theorem XU{s:Na}(h:Oe s=true):Up s:=by
 unfold Oe at h;simp only[Ib]at h;obtain⟨⟨e,_⟩,_⟩:=h
 have key:∀(l:List UInt8) (k:Nat),Tl l k=true->(∀c∈l,c≠44)/\(k=0->∀c∈l.head?,Hr c=false):=by
  intro l
  induction l with
  | nil=>grind
  | cons a l d=>
   intro k h;rw[Tl,Ib]at h;obtain⟨g,_⟩:=d _ h.2;have b:=h.1;unfold okB at b;rw[decide_eq_true_eq]at b;refine⟨λc hc=>?_,λf c hc=>?_⟩
   ·rcases List.mem_cons.1 hc with rfl|hc
    {rintro rfl;simp at b}
    grind
   grind [Hr]
 grind [Up,ByteArray.toList_eq]
theorem AQ:Up We:=by
 have:We.toList=[]:=by rw[Vd];rfl
 rw[Up,this];simp
theorem Uw(d:List Fa):∀(N:Nat) (f:Fo),f.size<=N->Gk d f->Jt f:=by
 intro N
 induction N with| zero=>intro f h;have:=f.size_pos;omega| succ N m=>{intro f l hw;obtain⟨o,s,c,n,e⟩:=f;rw[Gk]at hw;rw[Jt,nC];(rcases hw with⟨g,rfl,_,_,rfl⟩|⟨rfl,_,_,j,_,rfl⟩|⟨g,rfl,_,_,a⟩);{exact⟨ja,AQ,Aa⟩};{exact⟨ja,XU j,Aa⟩};{refine⟨ja,AQ,λk b=>m k ?_ ((Si d e).1 a k b)⟩;obtain⟨i,hi,rfl⟩:=Zc b;have:=Fo.Eh e i hi;rw[Fo.size]at l;omega}}
section
def ah(a:Na)(f:Fo):List Int:=((Ud f).filter λt=>Lh t.1 a).flatMap λt=>[t.2.2,t.2.2+1]
def qt:List Int->List Int
 | []=>[]
 | a::l=>a::ln a l
def Zk(a:Na)(lo hi:Int)(f:Fo):List Int:=qt (((lo::ah a f).mergeSort λx y=>decide (x<=y)).filter λn=> !(decide (n<lo) || decide (hi<n)))
theorem lG(a:Na)(f:Fo)(x:Int):x∈ah a f↔∃t∈Ud f,t.1=a/\(x=t.2.2\/x=t.2.2+1):=by
 unfold ah;rw[List.mem_flatMap];constructor
 ·grind [Lh,Hp]
 ·rintro⟨t,b,rfl,c⟩
  grind [Lh]
theorem Xi(a:Na){lo hi:Int}(i:lo<=hi)(f:Fo):∃b,Zk a lo hi f=lo::b/\He hi lo b/\∀x,x∈lo::b↔(lo<=x/\x<=hi)/\(x=lo\/x∈ah a f):=by
 have j:((lo::ah a f).mergeSort λx y=>decide (x<=y)).Pairwise (· <= ·):=by
  grind [List.pairwise_mergeSort]
 have c:∀x,x∈((lo::ah a f).mergeSort λx y=>decide (x<=y)).filter (λn=> !(decide (n<lo) || decide (hi<n)))↔(lo<=x/\x<=hi)/\(x=lo\/x∈ah a f):=by
  grind [List.mem_mergeSort]
 unfold Zk;have d:=j.filter (λn=> !(decide (n<lo) || decide (hi<n)));revert c d;generalize((lo::ah a f).mergeSort λx y=>decide (x<=y)).filter (λn=> !(decide (n<lo) || decide (hi<n)))=l;intro c d;obtain⟨o,b,e,g,h,m⟩:=xt d (λx k=>((c x).1 k).1) ((c lo).2 ja);refine⟨b,by rw[e,g];rfl,h,λx=>?_⟩
 grind
theorem mG{u how n:Int}(a:¬(Z<n/\n<=u))(b:¬(Z<n+1/\n+1<=u))(h:Z<=u):Ol Z how n=Ol u how n:=by
 grind [Ol]
def Ny(d:List Fa)(i:Nat):Na:=(d.getD i Ka).name
def Fg(d:List Fa)(i:Nat):Int:=(d.getD i Ka).lo
def Hi(d:List Fa)(i:Nat):Int:=(d.getD i Ka).hi
structure Di (d : List Fa) : Prop where
 len:d.length<=60
 name:∀i,i<d.length->ki d (Ny d i)=i/\Oe (Ny d i)=true
 Uu:∀i,i<d.length->0<=Fg d i/\Fg d i<=Hi d i/\Hi d i<=1000000
theorem oC:∀(d:List Fa) (s:Na) (k:Int),(∃j:Nat,idxFrom (λf:Fa=>Lh f.name s) d k=k+j/\∃h:j<d.length,d[j].name=s)\/idxFrom (λf:Fa=>Lh f.name s) d k= -1
 | [],_,_=>.inr rfl
 | f::d,s,k=>by
  rw[idxFrom];by_cases h:Lh f.name s=true
  ·rw[Ga h]
   refine .inl ⟨0,ja,Aa,?_⟩
   grind [Lh,Hp]
  {rw[if_neg h];(rcases oC d s (k+1)with⟨j,a,b,c⟩|a);{exact .inl ⟨j+1,ja,by simp;omega,by grind⟩};omega}
theorem nG{d:List Fa}{s:Na}(h:ki d s=j)(f:j<d.length):Ny d j=s:=by
 unfold ki at h;rcases oC d s 0 with⟨a,b,c,e⟩|b
 all_goals grind [Ny]
variable {d : List Fa}
def yo(d:List Fa)(i:Nat)(s:Fo)(v:Int):Fo:=Sg (Ny d i) v s
def vm(d:List Fa)(i:Nat)(s:Fo):List Int:=Zk (Ny d i) (Fg d i) (Hi d i) s
def Pw(d:List Fa)(f:Nat)(m:List Dn)(a:List (Na×Nat))(i:Nat)(s:Fo):(List Dn×List (Na×Nat))×Nat:=mi d.length Fj (vm d) (yo d) ik 20000 f m a i s
structure Kk (d : List Fa) (f0 : Fo) (i : Nat) (s : Fo) : Prop where
 le:i<=d.length
 wf:Gk d s
 red:xJ s
 tests:∀t∈Ud s,t∈Ud f0/\∃k,i<=k/\k<d.length/\ki d t.1=(k:Nat)
 from_:∃vs:List Int,vs.length=i/\(∀j,j<i->vs.getD j 0∈vm d j f0)/\∀c,od d.length (Fg d) (Hi d) c->Fe d c s=Fe d (λj=>if j<i then vs.getD j 0 else c j) f0
theorem BQ(hd:Di d){f:Fo}(h:∀t∈Ud F,t∈Ud f)(hi:j<d.length)(k:Z∈vm d j F):Z∈vm d j f:=by
 have a:=(hd.Uu j hi).2.1;obtain⟨l,g,_,i⟩:=Xi (Ny d j) a F;obtain⟨e,b,_,c⟩:=Xi (Ny d j) a f
 grind [vm,lG]
theorem xo(hd:Di d){s:Fo}(h:Kk d F j s)(hi:j<d.length){v:Int}(C:v∈vm d j s):Kk d F (j+1) (yo d j s v):=by
 obtain⟨r,G,H,u⟩:=gy d (Ny d j) v _ s (wa _) h.wf;obtain⟨w,i,D,hval⟩:=h.from_;obtain⟨S,J,_,I⟩:=Xi (Ny d j) (hd.Uu j hi).2.1 s
 have g:Fg d j<=v/\v<=Hi d j:=by
  grind [vm]
 refine⟨hi,r,G,?_,w++[v],by simp[i],?_,?_⟩
 ·intro t b
  have h1:=u t b;obtain⟨z,k,K,L,M⟩:=h.tests t h1.1
  grind [nG]
 ·intro a P
  rcases td a j with h1|h1
  ·grind
  {(have:a=w.length:=ja);subst this;rw[Af,i];exact BQ hd (λt b=>(h.tests t b).1) hi C}
 ·intro c y
  have hc':=Mi y g.1 g.2
  have x:Fe d c (yo d j s v)=Fe d (om c j v) (yo d j s v):=by
   have A:∀(N:Nat) (f:Fo),f.size<=N->Gk d f->(∀t∈Ud f,t.1≠Ny d j)->Fe d c f=Fe d (om c j v) f:=by
    intro N
    induction N with
    | zero=>intro f h;have:=f.size_pos;omega
    | succ N E=>
     intro f O hw b;obtain⟨R,s,m,n,q⟩:=f;rw[Gk]at hw;rw[Fe,Fe];rcases hw with⟨h1,_⟩|⟨rfl,_,_,_,⟨k,l,o⟩,_⟩|⟨h1,_,_,_,p⟩
     ·grind
     ·have z:(ki d s).toNat≠j:=by
       intro e;rw[l,Fc]at e;subst e;exact b (s,m,n) (by simp[Ud]) (nG l o).symm
      grind [om]
     ·have Q:Bm d c q=Bm d (om c j v) q:=by
       rw[qn,qn];refine Ch λk l=>E k ?_ ((Si d q).1 p k l) λt B=>b t ?_
       all_goals grind [List.getElem_of_mem,Fo.Eh,Fo.size,Ud,Sl]
      grind
   exact A _ _ (wa _) r λt b=>(u t b).2
  rw[x]
  show Fe d _ (Sg _ v s)=_
  rw[H _ ?_,hval _ hc']
  ·grind [om]
  ·intro t b e
   rw[(hd.name j hi).1,Fc]
   grind [om]
theorem rn(hd:Di d){s:Fo}(h:Kk d F j s)(hi:j<d.length):∃a,vm d j s=Fg d j::a/\He (Hi d j) (Fg d j) a/\
  ∀c,od d.length (Fg d) (Hi d) c->Fe d c s=Fe d c (yo d j s ((Fg d j::a).getD (Ie a (c j)) 0)):=by
 obtain⟨a,g,f,m⟩:=Xi (Ny d j) (hd.Uu j hi).2.1 s;refine⟨a,g,f,λc i=>?_⟩;obtain⟨_,_,l,_⟩:=gy d (Ny d j) ((Fg d j::a).getD (Ie a (c j)) 0) _ s (wa _) h.wf;have b:=i j hi;obtain⟨k,n,o⟩:=bz a _ _ f b.1;symm
 unfold yo;refine l c λt p e=>?_
 rw[(hd.name j hi).1,Fc]
 have key:∀x,x=t.2.2\/x=t.2.2+1->¬((Fg d j::a).getD (Ie a (c j)) 0<x/\x<=c j):=by
  grind [lG]
 exact mG (key _ ja) (key _ ja) k
theorem cy{s:Fo}(h:Kk d F d.length s):Fj s≠none:=by
 intro c;have b:=zQ d _ s (wa _) h.wf (yJ h.red c);cases a:Ud s with| nil=>exact b a| cons t l=>{obtain⟨_,k,e,f,_⟩:=h.tests t (by rw[a];simp);omega}
theorem Mj{f:Fo}(h:Gk d f):Kk d f 0 (Sg We 0 f):=by
 obtain⟨q,r,u,v⟩:=gy d We 0 _ f (wa _) h
 have hne:∀(N:Nat) (f:Fo),f.size<=N->Gk d f->∀t∈Ud f,t.1≠We/\∃k:Nat,k<d.length/\ki d t.1=k:=by
  intro N
  induction N with
  | zero=>intro f h;have:=f.size_pos;omega
  | succ N y=>
   intro f x hw t a;obtain⟨A,s,m,n,z⟩:=f;rw[Gk]at hw;rw[Ud,Hf,Sl]at a;rcases hw with⟨b,_,_,_,rfl⟩|⟨rfl,_,_,g,⟨k,o,i⟩,rfl⟩|⟨b,_,_,_,p⟩
   ·grind
   {simp at a;subst a;refine⟨?_,k,i,o⟩;intro e;have e:s=We:=e;rw[e,show Oe We=false by kernel_rfl]at g;cases g}
   grind [Si,List.getElem_of_mem,Fo.Eh,Fo.size]
 refine⟨ja,q,r,?_,[],rfl,λj l=>absurd l ja,?_⟩
 ·intro t a
  have b:=v t a;obtain⟨_,k,g,w⟩:=hne _ f (wa _) h t b.1
  grind
 {intro c _;rw[u c λt a e=>absurd e (hne _ f (wa _) h t a).1];congr 1}
theorem eE{f:Fo}{b:Bool}(h:Gk d f)(a:Fj f=some b)(c:Nat->Int):Fe d c f=b:=by rw[fE h a,tl]
theorem nQ(hd:Di d)(e:∀m b,jn d.length (Fg d) (Hi d) (λs c=>Fe d c s) ik (Kk d F) m b->m.length<=20000)(f:Nat)(m:List Dn)(b:List (Na×Nat))(i:Nat)(s:Fo)
  (h:jn d.length (Fg d) (Hi d) (λs c=>Fe d c s) ik (Kk d F) m b) (j:Kk d F i s) (n:d.length-i<f):
  jn d.length (Fg d) (Hi d) (λs c=>Fe d c s) ik (Kk d F) (Pw d f m b i s).1.1 (Pw d f m b i s).1.2/\xm d.length (Fg d) (Hi d) (λs c=>Fe d c s) (Pw d f m b i s).1.1 i s (Pw d f m b i s).2/\
  ∃u,(Pw d f m b i s).1.1=m++u:=by
 refine dE e (λi s q a k c _=>eE a.wf k c) (λs a=>cy a) (λi s a=>a.le) ?_ (λi s v a _ hi o=>xo hd a hi o) (λi s a _ hi=>rn hd a hi) f m b i s h j n;intro i s w p a g l;obtain⟨r,t⟩:=It (Uw d _ s (wa _) a.wf) (Uw d _ p (wa _) g.wf) l
 grind
theorem wv(a:Fo):jn d.length (Fg d) (Hi d) (λs c=>Fe d c s) ik (Kk d a) [] []:=
 ⟨Made.nil,λk h=>absurd h (Od k),λ_ _ _ _ h=>by cases h⟩
end
section
def Xo(b:Nat->Nat):Nat->Nat
 | 0=>1
 | n+1=>Xo b n*b n
def oG(b a:Nat->Nat):Nat->Nat
 | 0=>0
 | n+1=>oG b a n+a n*Xo b n
theorem iE{b a:Nat->Nat}:∀ {n:Nat},(∀j,j<n->a j<b j)->oG b a n<Xo b n
 | 0,_=>Nat.one_pos
 | n+1,h=>by
  have e:=iE (n:=n) λj d=>h j ja
  have c:(a n+1)*Xo b n<=b n*Xo b n:=ie _ (h n ja)
  grind [oG,Xo]
theorem wL{b a c:Nat->Nat}:∀ {n:Nat},(∀j,j<n->a j<b j)->(∀j,j<n->c j<b j)->oG b a n=oG b c n->∀j,j<n->a j=c j
 | 0,_,_,_,j,d=>absurd d ja
 | n+1,h,f,e,j,d=>by
  have k:=iE (n:=n) λj d=>h j ja
  have l:=iE (n:=n) λj d=>f j ja
  rw[oG,oG]at e
  have i:a n=c n:=by
   rcases Xg (a n) (c n)with q|q|q
   ·have:(a n+1)*Xo b n<=c n*Xo b n:=ie _ q
    grind
   {exact q}
   ·have:(c n+1)*Xo b n<=a n*Xo b n:=ie _ q
    grind
  rw[i]at e;rcases td j n with g|g
  {exact wL (λj d=>h j ja) (λj d=>f j ja) ja j g}
  {(have:j=n:=ja);rw[this];exact i}
section
variable {nf : Nat} {lo hi : Nat -> Int} {t : List Dn} {M : Nat -> (Nat -> Int)-> Bool}
theorem pG(g:Ce nf lo hi t M)(q:j<t.length)(h:(t.getD j Ka).kids≠[])
  (w:∀c v,od nf lo hi c->lo (t.getD j Ka).fact.toNat<=v->v<=hi (t.getD j Ka).fact.toNat->M j (om c (t.getD j Ka).fact.toNat v)=M j c):False:=by
 have d:=(g.table j q).inner h
 obtain⟨p,r,hcs⟩:∃p r,(t.getD j Ka).Sb=p::r:=by{cases e:(t.getD j Ka).Sb with| nil=>grind| cons a l=>grind}
 have hlen:=d.2.2.2.2.1;have hch:=d.2.2.2.2.2.1
 obtain⟨m,n,x,i⟩:∃m n x,(t.getD j Ka).kids=m::n::x:=by{cases e:(t.getD j Ka).kids with| nil=>grind| cons a l=>{cases l with| nil=>grind| cons b l=>grind}}
 have k:=g.dom _ d.2.2.1;rw[hcs]at hch
 have A:rh (t.getD j Ka) (lo (t.getD j Ka).fact.toNat)=m:=by
  grind [rh,Ni]
 have B:rh (t.getD j Ka) p=n:=by{unfold rh;rw[hcs,sh ja,Ni hch.2.2,i];rfl}
 have s:=d.2.2.2.2.2.2.2 m (by grind);have u:=d.2.2.2.2.2.2.2 n (by grind)
 have key:m.toNat=n.toNat:=by{(refine g.one s.2.1 u.2.1 λc o=>?_);have y:=mj g.table g.reads q h (xg _) k o;have z:=mj g.table g.reads q h (by have:=hch.1;omega) hch.2.1 o;rw[A]at y;rw[B]at z;rw[y,z,w c _ o ja k,w c _ o (by have:=hch.1;omega) hch.2.1]}
 have f:=d.2.2.2.2.2.2.1;rw[i]at f;have:=s.1;have:=u.1;exact f.1 ja
end
variable {d : List Fa}
def YM(d:List Fa)(f:Fo)(i:Nat):Nat:=(vm d i f).length
def cellsD(d:List Fa)(f:Fo):Nat:=Xo (YM d f) d.length
theorem TD(hd:Di d)(f:Fo)(hi:j<d.length):1<=YM d f j:=by
 obtain⟨a,e,_⟩:=Xi (Ny d j) (hd.Uu j hi).2.1 f
 grind [YM,vm]
theorem AZ(hd:Di d){s:Fo}(h:Kk d F j s)(hi:j<d.length)(p:YM d F j=1)(c:Nat->Int)(v:Int)(i:od d.length (Fg d) (Hi d) c)(x:Fg d j<=v)(y:v<=Hi d j):
  Fe d (om c j v) s=Fe d c s:=by
 obtain⟨k,f,o,g⟩:=rn hd h hi
 have r:k=[]:=by
  cases k with
  | nil=>rfl
  | cons a l=>
   exfalso
   have z:a∈vm d j F:=BQ hd (λt u=>(h.tests t u).1) hi (by rw[f];simp);obtain⟨e,b,_,_⟩:=Xi (Ny d j) (hd.Uu j hi).2.1 F;have b:vm d j F=Fg d j::e:=b;unfold YM at p;have:e=[]:=by grind
   subst this;have:=o.1
   grind
 subst r;have m:=g c i;have n:=g _ (Mi i x y);rw[Bv]at m n;obtain⟨A,_,_,B⟩:=gy d (Ny d j) ((Fg d j::([])).getD 0 0) _ s (wa _) h.wf;have q:=xo hd h hi (v:=Fg d j) (by rw[f];simp);obtain⟨C,w,_,hval⟩:=q.from_
 grind [om,Mi]
def ZM(d:List Fa)(a:Fo)(i:Nat)(b:List Int)(j:Nat):Nat:=if j<i then(vm d j a).idxOf (b.getD j 0)else if j=i then 1 else 0
theorem jC(hd:Di d){E:List (Na×Nat)}(h:jn d.length (Fg d) (Hi d) (λs c=>Fe d c s) ik (Kk d F) T E):T.length<=cellsD d F+2:=by
 have b:=λi hi=>(hd.Uu i hi).2.1
 have g:=h.made.yh b
 refine pC h.made b _ (λk z=>∃i a,i<d.length/\2<=YM d F i/\a.length=i/\(∀j,j<i->a.getD j 0∈vm d j F)/\z=oG (YM d F) (ZM d F i a) d.length/\
  ∀c,od d.length (Fg d) (Hi d) c->qg T k c=Fe d (λj=>if j<i then a.getD j 0 else c j) F) ?_ ?_
 ·intro k p f
  obtain⟨i,s,L,hfact,A⟩:=h.from_ k p f;have M:=(h.made.table k p).inner f;have hi:i<d.length:=by omega
  have n:2<=YM d F i:=by
   have G:=TD hd F hi;rcases td (YM d F i) 2 with hlt|x
   ·exfalso
    refine pG g p f λc v m D B=>?_
    grind [Mi,AZ]
   {exact x}
  obtain⟨a,D,B,S⟩:=L.from_;refine⟨_,?_,i,a,hi,n,D,B,rfl,λc m=>by grind⟩;refine iE λj l=>?_
  unfold ZM
  split
  {next e=>exact Yc (B j e)}
  grind [TD]
 ·rintro k k' z p N ⟨i,a,G,n,R,o,J,K⟩ ⟨O,P,H,q,I,r,t,u⟩ c m
  have C:∀ {i:Nat} {a:List Int},2<=YM d F i->(∀j,j<i->a.getD j 0∈vm d j F)->∀j,j<d.length->ZM d F i a j<YM d F j:=by
   intro i a n o j l;unfold ZM
   split
   {next e=>exact Yc (o j e)}
   grind [TD]
  have w:=wL (C n o) (C q r) (J.symm.trans t)
  have y:i=O:=by
   grind [ZM]
  subst y;rw[K c m,u c m];congr 1
  funext j;by_cases l:j<i
  ·rw[Ga l,Ga l]
   have:=w j ja;unfold ZM at this;have Q:=List.getElem_idxOf (Yc (o j l))
   grind
  omega
end
end Go.Proofs.YtdipkbobalnilaaGreatDoor
