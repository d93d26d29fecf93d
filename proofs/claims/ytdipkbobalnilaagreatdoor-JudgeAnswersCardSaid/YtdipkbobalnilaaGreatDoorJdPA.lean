/- The regions by their keys: where the map of keys leads. No program. -/
import Derived.Test.YtdipkbobalnilaaGreatDoorAl
import Derived.Shelf.SlSortCmp.Insertion
import Derived.Shelf.GgSortFunc.InsertionK
import Derived.Test.YtdipkbobalnilaaGreatDoorRkGA
namespace Go.Proofs.YtdipkbobalnilaaGreatDoor
open Go.Lib
variable{j:Nat}{T:List Dn}{Z:Int}{P:List Pv}{G:Nat->Int}
structure Jo where
 state:Int
 value:Int
 by_:List Na
 over:List Na
def fm(s:List UInt8):List UInt8:=itoa s.length++58::s
def Ej(a:Jo):List UInt8:=fm (itoa a.state)++(fm (itoa a.value)++(fm (itoa a.by_.length)++(a.by_++a.over).flatMap λs=>fm s.toList))
def Ap(a:Jo):Na:=⟨(Ej a).toArray⟩
theorem ku{s b r a:List UInt8}(h:fm s++r=fm b++a):s=b/\r=a:=by
 unfold fm at h;rw[Ic,Ic,Cc,Cc]at h;obtain⟨c,d⟩:=sE Ba h
 grind [List.append_inj]
theorem XL(s:List UInt8):fm s≠[]:=by unfold fm;simp
theorem BK{a b:Na}(h:a.toList=b.toList):a=b:=by
 grind [Hp]
theorem zH:∀ {l a:List Na},(l.flatMap λs=>fm s.toList)=(a.flatMap λs=>fm s.toList)->l=a
 | [],[],_=>rfl
 | [],s::a,h=>by
  grind [List.append_eq_nil_iff,XL]
 | s::l,[],h=>by
  grind [List.append_eq_nil_iff,XL]
 | s::l,d::a,h=>by{obtain⟨b,c⟩:=ku h;rw[BK b,zH c]}
theorem Yz{a b:Jo}(h:Ej a=Ej b):a=b:=by
 unfold Ej at h;obtain⟨e,h⟩:=ku h;obtain⟨f,h⟩:=ku h;obtain⟨g,h⟩:=ku h;have c:=zH h;have d:a.by_.length=b.by_.length:=by grind [Bn]
 obtain⟨i,j⟩:=List.append_inj c d;obtain⟨s,v,p,o⟩:=a;obtain⟨m,n,l,k⟩:=b
 grind [Bn]
theorem nS{a b:Jo}(h:Ap a=Ap b):a=b:=by
 have c:(Ej a).toArray=(Ej b).toArray:=congrArg ByteArray.data h
 grind [Yz]
section
abbrev Part:=List Dn×List Nat
abbrev Gi(d:List Fa)(c:Nat->Int):Prop:=od d.length (Fg d) (Hi d) c
def Qz(d:List Fa)(g:List Dn)(i:Nat)(x:Part):List Part:=
 (if(Ld d (Ae d x.1 g).1).isSome then[((Ae d x.1 g).1,x.2++[i])]else[])++(if(Ld d (Ae d x.1 (Hd g)).1).isSome then[((Ae d x.1 (Hd g)).1,x.2)]else[])
def lu(d:List Fa)(g:List Dn)(i:Nat):List Part->List Part->List Part×Int
 | [],out=>(out,0)
 | x::xs,out=>
  if(Ae d x.1 g).2=0 then(if(Ae d x.1 (Hd g)).2=0 then lu d g i xs (out++Qz d g i x)else([],(Ae d x.1 (Hd g)).2))
  else([],(Ae d x.1 g).2)
variable {d : List Fa} {A : Nat -> (Nat -> Int)-> Bool} {R : List Nat} {parts : List Part} {g : List Dn} {i : Nat}
theorem oS:∀(a out:List Part),(lu d g i a out).2=0->(lu d g i a out).1=out++a.flatMap (Qz d g i)/\∀x∈a,(Ae d x.1 g).2=0/\(Ae d x.1 (Hd g)).2=0
 | [],out,_=>by simp[lu]
 | x::a,out,h=>by{rw[lu]at h⊢;by_cases b:(Ae d x.1 g).2=0;{rw[Ga b]at h⊢;by_cases c:(Ae d x.1 (Hd g)).2=0;{rw[Ga c]at h⊢;obtain⟨f,j⟩:=oS a _ h;refine⟨by rw[f,Bc,Ic],λy e=>?_⟩;(rcases List.mem_cons.1 e with rfl|e);{exact⟨b,c⟩};{exact j y e}};{rw[if_neg c]at h;exact absurd h c}};{rw[if_neg b]at h;exact absurd h b}}
structure jl (d : List Fa) (A : Nat -> (Nat -> Int)-> Bool) (R : List Nat) (parts : List Part) : Prop where
 valid:∀x∈parts,Qc d x.1
 some:∀x∈parts,(Ld d x.1).isSome=true
 apart:parts.Pairwise λx y=>∀c,Gi d c->Uc d x.1 0 c=true->Uc d y.1 0 c=false
 all:∀c,Gi d c->∃x∈parts,Uc d x.1 0 c=true
 ids:∀x∈parts,∀c,Gi d c->Uc d x.1 0 c=true->x.2=R.filter λi=>A i c
theorem YL{x y:Part}(h:y∈Qz d g i x):((Ld d y.1).isSome=true)/\(y=((Ae d x.1 g).1,x.2++[i])\/y=((Ae d x.1 (Hd g)).1,x.2)):=by
 grind [Qz]
theorem mu(e:Qc d g){x:Part}(a:(Ae d x.1 g).2=0)(b:(Ae d x.1 (Hd g)).2=0){y:Part}(f:y∈Qz d g i x):Qc d y.1/\∀c,Gi d c->Uc d y.1 0 c=true->Uc d x.1 0 c=true/\y.2=(if Uc d g 0 c=true then x.2++[i]else x.2):=by
 obtain⟨_,_,l,j⟩:=Ai a;obtain⟨_,_,m,k⟩:=Ai b;obtain⟨_,h⟩:=Xh e;rcases(YL f).2 with rfl|rfl
 all_goals grind
theorem kl{t:List Dn}(h:Qc d t)(a:Uc d t 0 G=true):(Ld d t).isSome=true:=by
 grind [Ld,jz]
theorem jl.cut(h:jl d A R parts)(m:Qc d g)(u:∀c,Gi d c->Uc d g 0 c=A i c)(v:(lu d g i parts []).2=0):jl d A (R++[i]) (lu d g i parts []).1:=by
 obtain⟨e,l⟩:=oS parts [] v;rw[e,Tb];refine⟨λy j=>?_,λy j=>?_,List.pairwise_flatMap.2 ⟨λx f=>?_,h.apart.imp_of_mem ?_⟩,λc k=>?_,λy j c k n=>?_⟩
 ·obtain⟨x,f,j⟩:=List.mem_flatMap.1 j
  grind [mu]
 {obtain⟨x,f,j⟩:=List.mem_flatMap.1 j;exact(YL j).1}
 ·obtain⟨_,_,_,z⟩:=Ai (l x f).1
  obtain⟨_,_,_,B⟩:=Ai (l x f).2;obtain⟨_,w⟩:=Xh m;unfold Qz;rw[Xf];refine⟨by split<;>simp,by split<;>simp,λa s b p c k n=>?_⟩
  grind
 ·intro x y f j q a s b p c k n
  have o:=((mu m (l x f).1 (l x f).2 s).2 c k n).1;have r:=q c k o;cases t:Uc d b.1 0 c with
  | false=>rfl
  | true=>
   have C:=((mu m (l y j).1 (l y j).2 p).2 c k t).1
   grind
 ·obtain⟨x,f,t⟩:=h.all c k
  obtain⟨_,_,D,z⟩:=Ai (l x f).1;obtain⟨_,_,E,B⟩:=Ai (l x f).2;obtain⟨_,w⟩:=Xh m;cases p:Uc d g 0 c with
  | true=>
   have hw:Uc d (Ae d x.1 g).1 0 c=true:=by grind
   refine⟨((Ae d x.1 g).1,x.2++[i]),List.mem_flatMap.2 ⟨x,f,?_⟩,hw⟩
   grind [Qz,kl]
  | false=>
   have hw:Uc d (Ae d x.1 (Hd g)).1 0 c=true:=by grind
   refine⟨((Ae d x.1 _).1,x.2),List.mem_flatMap.2 ⟨x,f,?_⟩,hw⟩
   grind [Qz,kl]
 ·obtain⟨x,f,j⟩:=List.mem_flatMap.1 j
  obtain⟨o,r⟩:=(mu m (l x f).1 (l x f).2 j).2 c k n;rw[r,u c k,yd, <-h.ids x f c k o]
  grind
def Dm(d:List Fa)(a b:List Dn):List Dn×Int:=if(Ae d (Hd a) (Hd b)).2=0 then(Hd (Ae d (Hd a) (Hd b)).1,0)else([],(Ae d (Hd a) (Hd b)).2)
abbrev Fx:=List Dn×Jo
def mr(d:List Fa)(t:List Dn)(a:Jo):List Fx->List Fx×Int
 | []=>([(t,a)],0)
 | r::out=>if Ej r.2=Ej a then(if(Dm d r.1 t).2=0 then(((Dm d r.1 t).1,r.2)::out,0)else([],(Dm d r.1 t).2))else(if(mr d t a out).2=0 then(r::(mr d t a out).1,0)else([],(mr d t a out).2))
structure VC (d : List Fa) (out : List Fx) : Prop where
 valid:∀r∈out,Qc d r.1
 some:∀r∈out,(Ld d r.1).isSome=true
 apart:out.Pairwise λr s=>∀c,Gi d c->Uc d r.1 0 c=true->Uc d s.1 0 c=false
 diff:out.Pairwise λr s=>r.2≠s.2
structure S9 (d : List Fa) (t : List Dn) (a : Jo) (out OO : List Fx) : Prop where
 ok:VC d OO
 back:∀r∈OO,∀c,Gi d c->Uc d r.1 0 c=true->(∃s∈out,s.2=r.2/\Uc d s.1 0 c=true)\/(r.2=a/\Uc d t 0 c=true)
 fwd:∀c,Gi d c->((∃s∈out,Uc d s.1 0 c=true)\/Uc d t 0 c=true)->∃r∈OO,Uc d r.1 0 c=true
 xE:∀r∈OO,r.2=a\/∃s∈out,s.2=r.2
def ri(d:List Fa)(f:List Nat->Jo×Int):List Part->List Fx->List Fx×Int
 | [],out=>(out,0)
 | x::xs,out=>if(f x.2).2=0 then(if(mr d x.1 (f x.2).1 out).2=0 then ri d f xs (mr d x.1 (f x.2).1 out).1 else([],(mr d x.1 (f x.2).1 out).2))else([],(f x.2).2)
structure Ks (d : List Fa) (F : (Nat -> Int)-> Jo × Int) (regs : List Fx) : Prop where
 ok:VC d regs
 all:∀c,Gi d c->∃r∈regs,Uc d r.1 0 c=true
 xE:∀r∈regs,∀c,Gi d c->Uc d r.1 0 c=true->F c=(r.2,0)
end
section
abbrev Zo:=List (Nat×List Dn)×Int
def uh(d:List Fa)(e:Int)(a b:List Dn):List Dn×Int:=if e=0 then Ae d a b else([],e)
def Pz(d:List Fa)(Zx:Nat->Zo->List Dn×Zo):List Nat->List Dn×Zo->List Dn×Zo
 | [],r=>r
 | k::ks,r=>Pz d Zx ks ((uh d (Zx k r.2).2.2 r.1 (Hd (Zx k r.2).1)).1,((Zx k r.2).2.1,(uh d (Zx k r.2).2.2 r.1 (Hd (Zx k r.2).1)).2))
def Yf(d:List Fa)(C:Nat->Fo)(E:Nat->List Nat):Nat->Nat->Zo->List Dn×Zo
 | 0,_,a=>([],a)
 | f+1,i,a=>
  match a.1.lookup i with
  | some g=>(g,a)
  | none=>
   if a.2=0 then
    ((Pz d (Yf d C E f) (E i) ((Nc d (C i)).1,(a.1,(Nc d (C i)).2))).1,(ins (Pz d (Yf d C E f) (E i) ((Nc d (C i)).1,(a.1,(Nc d (C i)).2))).2.1 i (Pz d (Yf d C E f) (E i) ((Nc d (C i)).1,(a.1,(Nc d (C i)).2))).1,(Pz d (Yf d C E f) (E i) ((Nc d (C i)).1,(a.1,(Nc d (C i)).2))).2.2))
   else([],a)
variable {d : List Fa} {C : Nat -> Fo} {E : Nat -> List Nat} {A : Nat -> (Nat -> Int)-> Bool}
theorem TL{a:List Dn}(h:(uh d Z a T).2=0):Z=0/\(Ae d a T).2=0/\(uh d Z a T).1=(Ae d a T).1:=by
 grind [uh]
theorem Qq{c:Type}(k:Nat)(v:c)(j:Nat):∀l:List (Nat×c),(ins l k v).lookup j=if j=k then some v else l.lookup j
 | []=>by
  grind [ins]
 | (a,x)::l=>by{rw[ins];by_cases h:k=a;{subst h;by_cases b:j=k;{subst b;simp};{simp[List.lookup,b,beq_eq_false_iff_ne.2 b]}};{rw[if_neg (by simpa using h)];by_cases b:j=a;{subst b;rw[if_neg (λe=>h e.symm)];simp};{(have d:(j==a)=false:=by simpa using b);rw[Ab,Ab,d];exact Qq k v j l}}}
end
section
def Gn(d:List Fa)(g:List Dn)(i:Nat):Int->List Part->List Part->List Part×Int
 | e,[],out=>(out,e)
 | e,x::xs,out=>
  if(uh d (uh d e x.1 g).2 x.1 (Hd g)).2=0 then Gn d g i 0 xs (out++Qz d g i x)else([],(uh d (uh d e x.1 g).2 x.1 (Hd g)).2)
def Of(d:List Fa)(C:Nat->Fo)(E:Nat->List Nat)(n:Nat):List Nat->List Part×Zo->List Part×Zo
 | [],r=>r
 | i::R,r=>
  Of d C E n R (if(Gn d (Yf d C E n i r.2).1 i (Yf d C E n i r.2).2.2 r.1 []).2=0/\1000<(Gn d (Yf d C E n i r.2).1 i (Yf d C E n i r.2).2.2 r.1 []).1.length then([],((Yf d C E n i r.2).2.1,2))
   else((Gn d (Yf d C E n i r.2).1 i (Yf d C E n i r.2).2.2 r.1 []).1,((Yf d C E n i r.2).2.1,(Gn d (Yf d C E n i r.2).1 i (Yf d C E n i r.2).2.2 r.1 []).2)))
variable {d : List Fa} {C : Nat -> Fo} {E : Nat -> List Nat} {A : Nat -> (Nat -> Int)-> Bool} {g : List Dn} {i n : Nat}
theorem BH{a:List Dn}(b:Z≠0):uh d Z a T=([],Z):=by grind [uh]
theorem Mn{a:List Dn}:uh d 0 a T=Ae d a T:=by grind [uh]
theorem Zz(b:Z≠0):∀a:List Part,Gn d g i Z a []=([],Z)
 | []=>rfl
 | x::a=>by grind [Gn,BH]
theorem sS{a:Zo}(b:a.2≠0):(Yf d C E n i a).2=a:=by
 cases n with
 | zero=>rfl
 | succ n=>
  grind [Yf]
theorem cm{a:Zo}(b:a.2≠0):∀R:List Nat,Of d C E n R ([],a)=([],a)
 | []=>rfl
 | i::R=>by{rw[Of];have c:(Yf d C E n i a).2=a:=sS b;simp only[c];rw[Zz b,if_neg (λh=>b h.1)];exact cm b R}
end
open Go.Sort Go.Shelf
def cmpL:List Int->List Int->Int
 | [],[]=>0
 | [],_::_=> -1
 | _::_,[]=>1
 | x::a,y::b=>if x<y then-1 else if y<x then 1 else cmpL a b
theorem pu:∀a b:List Int,cmpL a b<0↔a<b
 | [],[]=>⟨λh=>absurd h Ba,λh=>absurd h (List.not_lt_nil _)⟩
 | [],_::_=>⟨λ_=>List.nil_lt_cons _ _,λ_=>by rw[cmpL];decide⟩
 | _::_,[]=>⟨λh=>absurd h (by rw[cmpL];decide),λh=>absurd h (List.not_lt_nil _)⟩
 | x::a,y::b=>by
  rw[cmpL,List.cons_lt_cons_iff, <-pu]
  split
  {next h=>exact⟨λ_=>.inl h,λ_=>Ba⟩}
  ·next h=>
   split
   {next c=>exact⟨λq=>absurd q Ba,λq=>ja⟩}
   {next c=>exact⟨λq=>.inr ja,λq=>by rcases q with q|q;exact absurd q h;exact q.2⟩}
theorem I0{α:Type}(k:α->List Int):SWO (ltOf λx y=>cmpL (k x) (k y)) where
 irrefl x:=by unfold ltOf;rw[decide_eq_false_iff_not,pu];exact List.lt_irrefl _
 trans x y z h q:=by unfold ltOf at*;rw[decide_eq_true_iff,pu]at*;exact List.lt_trans h q
 ntrans x y z h q:=by unfold ltOf at*;rw[decide_eq_false_iff_not,pu,List.not_lt]at*;exact List.le_trans q h
section
variable {α : Type} [Inhabited α] {enc : α -> List Ea} {k : Nat}
theorem ME(b:∀x,(enc x).length=k)(d:0<k):∀(c:List α) (t:Nat),t<c.length*k->(c.flatMap enc)[t]? =some ((enc (c[t / k]!))[t % k]!)
 | [],t,h=>by simp at h
 | x::c,t,h=>by{rw[Bc];(rcases td t k with a|a);{rw[te (by rw[b];exact a),Nat.div_eq_of_lt a,Nat.mod_eq_of_lt a];(have:t<(enc x).length:=by rw[b];exact a);simp[this]};{obtain⟨s,rfl⟩:∃s,t=s+k:=⟨t-k,ja⟩;rw[Td (by rw[b];exact a),b,qf,ME b d c s (by simp[Nat.succ_mul]at h;omega)];simp[Nat.add_div_right _ d]}}
theorem CH(f:∀x,(enc x).length=k)(c:0<k)(a:List α):(flatK enc k a.toArray).toList=a.flatMap enc:=by
 apply List.ext_getElem?
 intro t;by_cases b:t<a.length*k
 {rw[ME f c a t b];(have d:t<(flatK enc k a.toArray).size:=by simpa using b);have e:=get_flatK enc k a.toArray t (by simpa using b);rw[Qf,fg d, <-getElem!_pos,e];simp}
 ·have g:(a.flatMap enc).length=a.length*k:=by
   clear b
   induction a with| nil=>simp| cons x a h=>grind
  simp_all
theorem eW(i:∀x,(enc x).length=k)(f:0<k){w:Ca}{g:Nat}{b:Array Ea}{e:TypeId}{a:List α}(d:w.heap[g]? =some (.cells b e (0,0)))(l:b.toList.take (a.length*k)=a.flatMap enc):HoldsK enc k w g 0 a.toArray:=by
 intro j m;have hj':j<a.length*k:=by simp_all
 refine⟨?_,by simp[World.frozen?,d]⟩;have c:(b.toList.take (a.length*k))[j]? =(a.flatMap enc)[j]? :=by rw[l]
 rw[Ue hj',ME i f a j hj']at c;have h:=get_flatK enc k a.toArray j (by simpa using hj');simp only[World.cell?,d,Vb];rw[<-Qf,c,h]
 simp
theorem fx{w:Ca}{g n:Nat}{e:TypeId}{b:Array Obj}{a:Array Ea}{d:Array α}(c:w.heap[g]? =some (.cells a e (0,0))):(sortWorldK enc k w g 0 n d b).heap[g]? =some (.cells (putCells id 0 (flatK enc k d) a) e (0,0)):=by
 grind [Array.getElem?_eq_some_iff,sortWorldK,putRowK,Go.Sort.heap_grow_old,putRow,mapBlock,Sort.ahead,onCells]
theorem NE(c:∀x,(enc x).length=k)(b:0<k){d:Array α}{a:Array Ea}{u:Ea}(h:(putCells id 0 (flatK enc k d) a)[j]? =some u):u∈d.toList.flatMap enc\/a[j]? =some u:=by
 have e:(flatK enc k d).toList=d.toList.flatMap enc:=by have:=CH c b d.toList;omega
 grind [putCells]
theorem U9(l:∀x,(enc x).length=k)(f:0<k){w:Ca}{g cap n m:Nat}{e:TypeId}{os:Array Obj}{a:Array Ea}{ts:List α}(o:ts.length=m)(b:j<=g)(i:w.heap[g]? =some (.cells a e (0,0)))
  (c:m<=cap) (h:cap<=maxLen) (d:a.size=cap*k):(sortWorldK enc k w g 0 n ts.toArray os).ownsRow j e k (.slice (Nb g) m cap) m (ts.flatMap enc):=by
 have hF:=CH l f ts;have hsz:(flatK enc k ts.toArray).size=m*k:=by simp[o]
 refine⟨?_,.inr ⟨g,cap,_,rfl,b,fx i,c,h,by simp[putCells,d],?_⟩⟩
 ·grind
 ·rw[<-hF, <-hsz]
  generalize flatK enc k _=F at hsz⊢;have p:F.size<=a.size:=by rw[hsz,d];exact ie k c
  apply List.ext_getElem?
  grind [putCells]
theorem Ms{w:Ca}{g n:Nat}{d:Array α}{a:Array Obj}(b:j<w.heap.size)(hne:j≠g):(sortWorldK enc k w g 0 n d a).heap[j]? =w.heap[j]? :=by
 grind [sortWorldK,putRowK,Go.Sort.heap_grow_old,putRow,mapBlock,Sort.ahead]
theorem uq{w:Ca}{g n:Nat}{d:Array α}{a:Array Obj}:w.heap.size<=(sortWorldK enc k w g 0 n d a).heap.size:=by simp[sortWorldK,putRowK,grow]
theorem qu{w:Ca}{g n:Nat}{d:Array α}{a:Array Obj}(c:j<=w.heap.size)(f:j<=g):Go.RowKit.Below j w (sortWorldK enc k w g 0 n d a):=
 ⟨rfl,rfl,rfl,uq,λb e=>Ms ja ja⟩
theorem sorted_perm{c:α->α->Int}{d a:Array α}(f:PermIn 0 d.size d a)(hs:SortedIn (ltOf c) 0 d.size a):a.toList.Perm d.toList/\a.toList.Pairwise λx y=>¬c y x<0:=by
 obtain⟨h,_,k⟩:=f;refine⟨?_,List.pairwise_iff_getElem.2 λi j m n b=>?_⟩
 {(have g:a.extract 0 d.size=a:=by grind);simp_all}
 ·have e:i<a.size:=by omega
  have hj':j<a.size:=by omega
  have l:=hs i j (Lb _) b ja
  grind [ltOf]
end
theorem lB{w a:Ca}(h:Go.RowKit.Below w.heap.size w a)(hd:w.drawn<=a.drawn):∃q b,a=grow (w.drewN q) b:=by
 obtain⟨d,e,f,j,k⟩:=h;refine⟨a.drawn-w.drawn,a.heap.extract w.heap.size a.heap.size,?_⟩;obtain⟨H,t,i,b,o⟩:=w;obtain⟨g,m,c,os',l⟩:=a;subst d e f;simp only[grow,World.drewN,World.mk.injEq,and_true,true_and]
 grind
def aA:List Int->Int×Int->Int×Int
 | [],s=>s
 | v::vs,s=>aA vs (if s.1=0 then(1,v)else if s.1=1/\s.2≠v then(2,0)else s)
theorem CE:∀a:List Int,aA a (2,0)=(2,0)
 | []=>rfl
 | v::a=>by exact CE a
theorem eH(v:Int):∀a:List Int,((∀u∈a,u=v)->aA a (1,v)=(1,v))/\(¬(∀u∈a,u=v)->aA a (1,v)=(2,0))
 | []=>⟨λ_=>rfl,λh=>absurd (λ_ h=>by cases h) h⟩
 | u::a=>by{rw[aA,if_neg Aa];obtain⟨e,f⟩:=eH v a;by_cases c:u=v;{subst c;rw[if_neg Aa];refine⟨λh=>e λx b=>h x (Pa _ b),λh=>f λd=>h λx b=>?_⟩;(rcases List.mem_cons.1 b with rfl|b);{rfl};{exact d x b}};{rw[Ga ja];exact⟨λh=>absurd (h u (Wa ..)) c,λ_=>CE a⟩}}
def Qs(a:List Int):List (Int×Bool):=a.foldl (λm v=>ins m v true) []
theorem Tx(k:Int):∀(l:List (Int×Bool)) (j:Int),j∈(ins l k true).map (·.1)↔j=k\/j∈l.map (·.1)
 | [],j=>by simp[ins]
 | (a,x)::l,j=>by{rw[ins];by_cases h:k=a;{subst h;simp};{rw[if_neg (by simpa using h),Eb,uf,Tx,Eb,uf];constructor;{rintro(h|h|h);{exact .inr (.inl h)};{exact .inl h};{exact .inr (.inr h)}};{rintro(h|h|h);{exact .inr (.inl h)};{exact .inl h};{exact .inr (.inr h)}}}}
theorem Ty(k:Int):∀l:List (Int×Bool),(l.map (·.1)).Nodup->((ins l k true).map (·.1)).Nodup
 | [],_=>by simp[ins]
 | (a,x)::l,h=>by{rw[ins];rw[Eb,Ah]at h;by_cases b:k=a;{subst b;rw[Ga Aa,Eb,Ah];exact h};{rw[if_neg (by simpa using b),Eb,Ah];refine⟨λc=>?_,Ty k l h.2⟩;(rcases(Tx k l a).1 c with e|e);{exact b e.symm};{exact h.1 e}}}
theorem iH:∀(a:List Int) (m:List (Int×Bool)),(m.map (·.1)).Nodup->((a.foldl (λm v=>ins m v true) m).map (·.1)).Nodup/\∀j,j∈(a.foldl (λm v=>ins m v true) m).map (·.1)↔j∈a\/j∈m.map (·.1)
 | [],m,h=>⟨h,λj=>Aa⟩
 | v::a,m,h=>by{rw[Nd];obtain⟨b,c⟩:=iH a _ (Ty v m h);refine⟨b,λj=>?_⟩;rw[c,Tx,uf];constructor;{rintro(h|h|h);{exact .inl (.inr h)};{exact .inl (.inl h)};{exact .inr h}};{rintro((h|h)|h);{exact .inr (.inl h)};{exact .inl h};{exact .inr (.inr h)}}}
theorem qK(a:List Int):((Qs a).map (·.1)).Nodup/\∀j,j∈(Qs a).map (·.1)↔j∈a:=by
 obtain⟨b,c⟩:=iH a [] Aa;exact⟨b,λj=>(c j).trans Aa⟩
theorem OC(c:List Int):(aA c (0,0)).1=(if(Qs c).length=0 then 0 else if(Qs c).length=1 then 1 else 2)/\((aA c (0,0)).1=1->∀v∈c,v=(aA c (0,0)).2)/\((aA c (0,0)).1=1\/(aA c (0,0)).2=0):=by
 obtain⟨g,d⟩:=qK c;generalize f:Qs c=K at*
 match c,d,f with
 | [],d,f=>{have:K=[]:=f.symm;subst this;exact⟨rfl,λ_ _ h=>(by cases h),.inr rfl⟩}
 | v::c,d,_=>
  have e:aA (v::c) (0,0)=aA c (1,v):=by rw[aA,Ga rfl]
  obtain⟨j,k⟩:=eH v c
  match K,g,d with
  | [],_,d=>grind [List.mem_cons_self]
  | [(a,x)],_,d=>
   grind [List.mem_cons_self]
  | (a,x)::(b,y)::K,g,d=>
   have i:a≠b:=by
    grind
   have l:=(d a).1 Aa;have m:=(d b).1 Aa
   have hne:¬∀u∈c,u=v:=λh=>by
    grind
   grind
def Qi:Jo:=⟨0,0,[],[]⟩
def Tk(a:List Na)(s:Int×Int)(p:Pv):Int×Int:=if xi a p.id=false then s else if s.1=0 then(1,p.value)else if s.1=1/\s.2≠p.value then(2,0)else s
theorem Tv(a:List Na):∀(b:List Pv) (s:Int×Int),b.foldl (Tk a) s=aA ((b.filter λp=>xi a p.id).map (·.value)) s
 | [],s=>rfl
 | p::b,s=>by{rw[Nd,Tv,Jc];cases h:xi a p.id with| false=>{(have:Tk a s p=s:=by unfold Tk;rw[Ga h]);rw[this,if_neg Aa]}| true=>{(have:Tk a s p=if s.1=0 then(1,p.value)else if s.1=1/\s.2≠p.value then(2,0)else s:=by unfold Tk;rw[if_neg (by rw[h];simp)]);rw[this,Ga rfl,Eb,aA]}}
def Rh(d:List Fa)(a:List Pv)(b:List Int)(ids:List Na):Jo×Int:=
 if(Je d a b ids).2=0 then(⟨(a.foldl (Tk (Je d a b ids).1) (0,0)).1,(a.foldl (Tk (Je d a b ids).1) (0,0)).2,(Je d a b ids).1,ids.filter λs=> !xi (Je d a b ids).1 s⟩,0)
 else(Qi,(Je d a b ids).2)
def Ek(q:Na)(p:Pv):Bool:=decide (p.kind=2)&& Lh p.name q
def bB(a:List Pv)(q:Na)(ids:List Na):List Na:=(a.filter λp=>Ek q p&& xi ids p.id).map (·.id)
theorem fW{d:List Fa}{a:List Pv}{b:List Int}{ids:List Na}(h:(Rh d a b ids).2≠0):(Rh d a b ids).1=Qi:=by
 grind [Rh]
theorem uS{d:List Fa}{a:List Int}{ids:List Na}(h:(Rh d P a ids).2=0):(Je d P a ids).2=0/\(Rh d P a ids).1.by_=(Je d P a ids).1/\(Rh d P a ids).1.over=ids.filter (λs=> !xi (Je d P a ids).1 s)/\
  ((Rh d P a ids).1.state,(Rh d P a ids).1.value)=aA ((P.filter λp=>xi (Je d P a ids).1 p.id).map (·.value)) (0,0):=by
 unfold Rh at h⊢
 split at h
 {next b=>rw[Ga b];exact⟨b,rfl,rfl,by rw[<-Tv]⟩}
 {next b=>exact absurd h b}
theorem OV{d:List Fa}{a:List Int}(h:(Je d P a []).2=0):Rh d P a []=(Qi,0):=by
 obtain⟨l,b⟩:=DH h;have e:(Je d P a []).1=[]:=by rw[b.eq,b.some.2 rfl];rfl
 have c:P.foldl (Tk []) (0,0)=(0,0):=by{(have q:(P.filter λp=>xi [] p.id)=[]:=List.filter_eq_nil_iff.2 λ_ _=>by simp[xi]);rw[Tv,q];rfl}
 unfold Rh;rw[Ga h,e,c]
 rfl
section
def Jm(n:Nat):List Fx->List (Na×Int)
 | []=>[]
 | r::out=>(Ap r.2,(n:Int))::Jm (n+1) out
variable {d : List Fa} {t : List Dn} {a : Jo}
theorem EH{a b:Jo}:(Ap a==Ap b)=true↔Ej b=Ej a:=by
 grind [nS,Yz]
theorem FH:∀(n:Nat) (out:List Fx),((Jm n out).lookup (Ap a)=none/\mr d t a out=(out++[(t,a)],0))\/
  ∃(i:Nat) (h:i<out.length),(Jm n out).lookup (Ap a)=some ((n+i:Nat):Int)/\mr d t a out=if(Dm d out[i].1 t).2=0 then(out.set i ((Dm d out[i].1 t).1,out[i].2),0)else([],(Dm d out[i].1 t).2)
 | n,[]=>.inl ⟨rfl,rfl⟩
 | n,r::out=>by
  by_cases h:Ej r.2=Ej a
  {right;refine⟨0,Nat.zero_lt_succ _,?_,?_⟩;{rw[Jm,Ab,EH.2 h];rfl};{rw[mr,Ga h];rfl}}
  ·have g:(Ap a==Ap r.2)=false:=by
    cases e:(Ap a==Ap r.2)with| false=>rfl| true=>exact absurd (EH.1 e) h
   rw[Jm,Ab,g,mr,if_neg h];rcases FH (n+1) out with⟨c,f⟩|⟨i,j,c,f⟩
   {left;rw[f];exact⟨c,Aa⟩}
   {right;refine⟨i+1,Nat.succ_lt_succ j,?_,?_⟩;{simp only;rw[c];congr 2;omega};{rw[f];simp;by_cases b:(Dm d out[i].1 t).2=0;{rw[Ga b,Ga b];simp};{rw[if_neg b,if_neg b,if_neg b]}}}
theorem GH(x:Fx):∀(n:Nat) (out:List Fx),Jm n (out++[x])=Jm n out++[(Ap x.2,((n+out.length:Nat):Int))]
 | n,[]=>rfl
 | n,r::out=>by rw[Cc,Jm,Jm,GH x (n+1) out,Cc,Qb,show n+1+out.length=n+(out.length+1) by omega]
theorem JH(x:List Dn):∀(n:Nat) (out:List Fx) (i:Nat) (h:i<out.length),Jm n (out.set i (x,out[i].2))=Jm n out
 | n,r::out,0,_=>rfl
 | n,r::out,i+1,h=>by rw[List.set_cons_succ,Jm,Jm];exact congrArg _ (JH x _ out i (by simpa using h))
end
end Go.Proofs.YtdipkbobalnilaaGreatDoor
