/- The walk of norm.of: the map of places, the rows of exceptions. Bounds on the number of provisions and of exceptions. -/
import Derived.Test.YtdipkbobalnilaaGreatDoorAl
import Derived.Test.YtdipkbobalnilaaGreatDoorHoldsA
import Derived.Deep.AppendLies
set_option maxRecDepth 100000
set_option maxHeartbeats 4000000
namespace Go.Proofs.YtdipkbobalnilaaGreatDoor
open Tryz
open Go.RowKit
variable{j:Nat}{E:TypeId}{Q:List Nat}
abbrev qP(g:Nat)(r:Ea)(p:Int->Bool)(l:List Int)(J:Ca->Prop):Prop:=
 ∀(W:Ca) (x:Int),x∈l->J W->Db g #[r,pa x] W λe a=>e=.returned (.bool (p x))/\J a
theorem xy(a:List Int)(g:Nat)(r:Ea)(p:Int->Bool)(J:Ca->Prop)(B:Nat)(x:Option Addr)(cap:Nat)(w:Ca)(F:∀args w,(callFunc g args).run prog w=.ok (.enter g args) w)
  (j:cap<=maxLen) (hlen:a.length<=cap) (d:∀W,J W->IntsIn W B a (.slice x a.length cap)) (z:qP g r p a J) (h:J w):
  Db 42 #[.slice x a.length cap,.func (.func g) #[r] #[]] w λe v=>e=.returned (pa (idxFrom p a 0))/\J v:=by
 unfold maxLen at j;have u:Hid (idxFrom p a 0=idxFrom p (a.drop 0) (0:Nat)):=rfl;have A:=la z;have C:=la d;have t:=la h;generalize idxFrom p a 0=R at*
 clear z d h;go_enter func42,ntmps42;go_wp2
 go_loopw [8] (λi wr=>∃k:Nat,k<=a.length/\i=pa k/\Hid (R=idxFrom p (a.drop k) k)/\Hid (J wr)) (λi _=>a.length-(intOf i).toNat)
 case atStart=>exact⟨0,ja,rfl,u,t⟩
 case round=>
  obtain⟨k,G,rfl,c,l⟩:=hrel;by_cases hlt:k<a.length
  {obtain⟨b,off,rfl,D,hcc⟩:=Sa.one (C.o wr l.o) k hlt;have m:=c.o;rw[ph _ a k hlt]at m;have n:=la (A.o wr a[k] (Oa _) l.o);generalize a[k]=y at*;have E:=l;clear l;cases q:p y with| true=>{have f:=la (show(k:Int)=R by rw[m,q];rfl);rw[q]at n;clear m c u;go_wp2_with (go_at_fn g;refine n.o.mono ?_;rintro e v ⟨rfl,hj'⟩);go_ret;exact⟨vf f.o,hj'⟩}| false=>{have f:=la (show R=idxFrom p (a.drop (k+1)) ((k+1:Nat):Int) by rw[m,q];rfl);rw[q]at n;clear m c u;go_wp2_with (go_at_fn g;refine n.o.mono ?_;rintro e v ⟨rfl,hj'⟩);have s:=la hj';go_roundw;(case rel=>exact⟨_,ja,by go_num,f,s⟩);case measure=>simp[intOf];omega}}
  ·have f:=la (show(-1:Int)=R by
    have h:=c.o
    rw[Bb ja]at h
    exact h.symm)
   go_wp2;go_ret;exact⟨vf f.o,l.o⟩
theorem xx(a:List Int)(g:Nat)(r:Ea)(p:Int->Bool)(J:Ca->Prop)(B:Nat)(d:Option Addr)(cap:Nat)(w:Ca)(i:∀args w,(callFunc g args).run prog w=.ok (.enter g args) w)
  (b:cap<=maxLen) (hlen:a.length<=cap) (c:∀W,J W->IntsIn W B a (.slice d a.length cap)) (l:qP g r p a J) (j:J w):
  Db 81 #[.slice d a.length cap,.func (.func g) #[r] #[]] w λe h=>e=.returned (.bool (a.any p))/\J h:=by
 have C:=la (xy a g r p J B d cap w i b hlen c l j);have f:=la (ij p a 0)
 change Hid (decide (0<=idxFrom p a 0)=_)at f
 generalize idxFrom p a 0=R at*
 go_enter func81,ntmps81;go_wp2_with (go_at_call 42;refine C.o.mono ?_;rintro e h ⟨rfl,k⟩);go_ret;exact⟨Cb f.o,k⟩
theorem MY(p:Pv)(b:Option Addr)(d:Nat)(a:Option Addr)(c:Nat):(Value.agg (Cl p b d a c).toArray).cells=(Cl p b d a c).toArray:=by
 grind [Value.cells]
def tF(d:List Fa)(p:Pv):Bool:=decide (se p.cond d (λ_=>false)≠0)
theorem rP(d:List Fa)(p:Pv)(b:Option Addr)(c:Nat)(g:Option Addr)(i:Nat)(m:Nat)(r:Option Addr)(t:Nat)(B:Nat)(W:Ca)(hs:p.cond.size<=1000000)(l:m<W.heap.size)(u:B<=W.heap.size)
  (z:W.cell? (Ya m)=some (.slice r d.length t)) (hd:jf W B d (.agg #[.slice r d.length t])) (y:p.cond.In W B (.agg #[pa p.cond.op,.string p.cond.name,pa p.cond.cmp,pa p.cond.n,.slice b p.cond.kids.length c])):
  Db 77 #[.agg (Cl p b c g i).toArray,Ma m] W λe C=>e=.returned (.bool (tF d p))/\Da W.heap.size W C:=by
 have a:Da _ W (W.alloc (.cells (Cl p b c g i).toArray 38)):=(za _ _).alloc (wa _) _;have f:=qb.new W 38 (Cl p b c g i).toArray;have q:=la (Xr _ d [] _ _ Ua _ B hs (by simp;omega) (Fo.In.below (a.mono u) _ _ y) (hd.below (a.mono u)) ⟨none,0,rfl,wa _,Lb _,λh=>absurd rfl h⟩);have D:(W.alloc _).cell? _=some (.int _ _):=f.cell 5;have E:(W.alloc _).cell? _=some (.string _):=f.cell 6;have F:(W.alloc _).cell? _=some (.int _ _):=f.cell 7;have G:(W.alloc _).cell? _=some (.int _ _):=f.cell 8;have c9:(W.alloc _).cell? _=some (.slice b _ c):=f.cell 9;have H:=(a.cell l).trans z;have j:=la a;have A:=MY p b c g i;have v:Hid (tF d p=decide _):=rfl;rw[show(λs=>([]).any λx=>Lh s x)=λ_=>false from rfl]at q;generalize se _ d (λ_=>false)=w at*
 generalize tF d p=R at*
 generalize(Cl p b c g i).toArray=I at*
 go_enter func77,ntmps77;go_wp2_with (go_at_call 78;refine q.o.mono ?_;rintro e J ⟨rfl,k⟩);go_ret;exact⟨Cb (by rw[v.o];by_cases h:w=0<;>simp[h]),j.o.trans (k.mono Aa)⟩
def PvV(B:Nat)(W:Ca)(x:Pv)(v:Ea):Prop:=∃a b c d,v=.agg (Cl x a b c d).toArray/\x.cond.In W B (.agg #[pa x.cond.op,.string x.cond.name,pa x.cond.cmp,pa x.cond.n,.slice a x.cond.kids.length b])
theorem JA(a:List Pv)(g:Nat)(H:Array Ea)(p:Pv->Bool)(J:Ca->Prop)(B:Nat)(D:Option Addr)(cap:Nat)(w:Ca)(O:∀args w,(callFunc g args).run prog w=.ok (.enter g args) w)
  (m:cap<=maxLen) (hlen:a.length<=cap) (d:∀W,J W->Sa jm 23 W B a (.slice D a.length cap)) (F:qM g H (PvV B) p a J) (l:J w):
  Db 121 #[.slice D a.length cap,.func (.func g) #[] H] w λe C=>e=.returned (pa (idxFrom p a 0))/\J C:=by
 unfold maxLen at m;have u:Hid (idxFrom p a 0=idxFrom p (a.drop 0) (0:Nat)):=rfl;have I:=la F;have K:=la d;have t:=la l;generalize idxFrom p a 0=R at*
 clear F d l;go_enter func121,ntmps121;go_wp2
 go_loopw [8] (λi wr=>∃k:Nat,k<=a.length/\i=pa k/\Hid (R=idxFrom p (a.drop k) k)/\Hid (J wr)) (λi _=>a.length-(intOf i).toNat)
 case atStart=>exact⟨0,ja,rfl,u,t⟩
 case round=>
  obtain⟨k,P,rfl,c,n⟩:=hrel;by_cases hlt:k<a.length
  ·obtain⟨b,off,rfl,L,x,A,v,z,G,E,f,M⟩:=Sa.at (K.o wr n.o) k hlt
   have q:=c.o;rw[ph _ a k hlt]at q;have r:=la (I.o wr _ _ (Oa _) n.o ⟨x,A,v,z,rfl,E⟩);have h:=la G;generalize a[k]=y at*
   have N:=n;clear E f M G n;cases f:p y with
   | true=>
    have j:=la (show(k:Int)=R by rw[q,f];rfl);rw[f]at r;clear q c u
    go_wp2_with (first
     | ((with_reducible show wpList _ _ _ (⟨_,Op.load 38 (.tmp 14),_,_,_,_⟩::_) _ _);refine Lc rfl (.tmp 14) rfl rfl y x A v z h.o Tryz.underlying38 rfl Pv.Dg ?_)
     | (go_at_fn g;refine r.o.mono ?_;rintro e C ⟨rfl,hj'⟩))
    go_ret;exact⟨vf j.o,hj'⟩
   | false=>
    have j:=la (show R=idxFrom p (a.drop (k+1)) ((k+1:Nat):Int) by rw[q,f];rfl);rw[f]at r;clear q c u
    go_wp2_with (first
     | ((with_reducible show wpList _ _ _ (⟨_,Op.load 38 (.tmp 14),_,_,_,_⟩::_) _ _);refine Lc rfl (.tmp 14) rfl rfl y x A v z h.o Tryz.underlying38 rfl Pv.Dg ?_)
     | (go_at_fn g;refine r.o.mono ?_;rintro e C ⟨rfl,hj'⟩))
    have s:=la hj';go_roundw
    case rel=>exact⟨_,ja,by go_num,j,s⟩
    case measure=>simp[intOf];omega
  ·have j:=la (show(-1:Int)=R by
    have l:=c.o
    rw[Bb ja]at l
    exact l.symm)
   go_wp2;go_ret;exact⟨vf j.o,n.o⟩
theorem yy(a:List Pv)(g:Nat)(f:Array Ea)(p:Pv->Bool)(J:Ca->Prop)(B:Nat)(d:Option Addr)(cap:Nat)(w:Ca)(j:∀args w,(callFunc g args).run prog w=.ok (.enter g args) w)
  (b:cap<=maxLen) (hlen:a.length<=cap) (c:∀W,J W->Sa jm 23 W B a (.slice d a.length cap)) (m:qM g f (PvV B) p a J) (k:J w):
  Db 79 #[.slice d a.length cap,.func (.func g) #[] f] w λe i=>e=.returned (.bool (a.any p))/\J i:=by
 have C:=la (JA a g f p J B d cap w j b hlen c m k);have h:=la (ij p a 0)
 change Hid (decide (0<=idxFrom p a 0)=_)at h
 generalize idxFrom p a 0=R at*
 go_enter func79,ntmps79;go_wp2_with (go_at_call 121;refine C.o.mono ?_;rintro e i ⟨rfl,l⟩);go_ret;exact⟨Cb h.o,l⟩
theorem Ys(l:List Int)(s:Int)(v:Ea)(w:Ca)(B:Nat)(f:IntsIn w B l v):
  Db 99 #[v,pa s] w λe p=>e=.returned (pa (idxFrom (λx=>s==x) l 0))/\w=p:=by
 obtain⟨q,cap,rfl,r,n,_⟩:=Sa.shape f;unfold maxLen at n;have m:=la f;have g:Hid (idxFrom (λx=>s==x) l 0=idxFrom (λx=>s==x) (l.drop 0) (0:Nat)):=rfl;generalize idxFrom (λx=>s==x) l 0=R at*
 clear f;go_enter func99,ntmps99;go_wp2
 go_loop [8] (λi=>∃k:Nat,k<=l.length/\i=pa k/\Hid (R=idxFrom (λx=>s==x) (l.drop k) k)) (λi=>l.length-(intOf i).toNat)
 case atStart=>exact⟨0,ja,rfl,g⟩
 case round=>
  obtain⟨k,z,rfl,a⟩:=hrel;by_cases hlt:k<l.length
  {obtain⟨b,off,rfl,t,u⟩:=Sa.one m.o k hlt;have d:=a.o;rw[ph _ l k hlt]at d;generalize l[k]=y at*;cases j:(s==y)with| true=>{have c:=la (show(k:Int)=R by rw[d,j];rfl);clear d a g;go_wp2;go_ret;exact⟨vf c.o,rfl⟩}| false=>{have c:=la (show R=idxFrom (λx=>s==x) (l.drop (k+1)) ((k+1:Nat):Int) by rw[d,j];rfl);go_wp2;go_round;(case rel=>exact⟨_,ja,by go_num,c⟩);case measure=>simp[intOf];omega}}
  ·have c:=la (show(-1:Int)=R by
    have h:=a.o
    rw[Bb ja]at h
    exact h.symm)
   go_wp2;go_ret;exact⟨vf c.o,rfl⟩
theorem Vo(l:List Int)(s:Int)(v:Ea)(w:Ca)(B:Nat)(a:IntsIn w B l v):
  Db 97 #[v,pa s] w λe c=>e=.returned (.bool (l.any λx=>s==x))/\w=c:=by
 have C:=la (Ys l s v w B a);have b:=la (ij (λx=>s==x) l 0);obtain⟨d,cap,rfl,f,g,_⟩:=Sa.shape a;clear a
 change Hid (decide (0<=idxFrom (λx=>s==x) l 0)=_)at b
 generalize idxFrom (λx=>s==x) l 0=R at*
 go_enter func97,ntmps97;go_wp2_with (go_at_call 99;refine C.o.mono ?_;rintro e c ⟨rfl,rfl⟩);go_ret;exact⟨Cb b.o,rfl⟩
end Go.Proofs.YtdipkbobalnilaaGreatDoor
namespace Go.Proofs.YtdipkbobalnilaaGreatDoor.Tj
open Tryz
variable{j:Nat}{E:TypeId}{Q:List Nat}
inductive Nu (G : Nat -> List Nat) : Nat -> Nat -> Prop where
 | refl (x:Nat):Nu G x x
 | step {x y z:Nat}:y∈G x->Nu G y z->Nu G x z
variable {G : Nat -> List Nat}
theorem Nu.trans{y z:Nat}(h:Nu G j y)(k:Nu G y z):Nu G j z:=by
 induction h with| refl _=>exact k| step e _ a=>exact .step e (a k)
theorem Nu.Zs{y:Nat}(h:y∈G j):Nu G j y:=.step h (.refl _)
theorem Nu.snoc{y z:Nat}(h:Nu G j y)(k:z∈G y):Nu G j z:=h.trans (.Zs k)
theorem Nu.stays{C:Nat->Prop}(b:∀j,C j->∀y∈G j,C y){y:Nat}(h:Nu G j y)(a:C j):C y:=by
 induction h with| refl _=>exact a| step e _ c=>grind
structure TS where
 ng:List Nat
 stack:List Nat
 low:Nat->Nat
 jd:List (List Nat)
variable{O:TS}
def TS.num(s:TS)(x:Nat):Nat:=s.ng.idxOf x
structure Inv (G : Nat -> List Nat) (P : Nat -> Prop) (s : TS) : Prop where
 vn:s.ng.Nodup
 ord:s.stack.Pairwise λx y=>s.num x<s.num y
 up:s.stack.Pairwise λx y=>Nu G x y
 pg:∀x,P x->x∈s.stack
 dn:∀y∈s.stack,∃x,P x/\s.num x<=s.num y/\Nu G y x
 cl:∀x∈s.jd.flatten,∀y∈G x,y∈s.jd.flatten
 sc:∀c∈s.jd,∀x∈c,∀y,y∈c↔Nu G x y/\Nu G y x
 part:∀x,x∈s.ng↔x∈s.stack\/x∈s.jd.flatten
 apart:∀x∈s.stack,x∉s.jd.flatten
 once:s.jd.flatten.Nodup
 ne:∀c∈s.jd,c≠[]
 bl:∀x∈s.ng,¬P x->∀y∈G x,y∈s.ng
structure J5 (G : Nat -> List Nat) (P : Nat -> Prop) (i : Nat) (s : TS) : Prop where
 inv:Inv G P s
 fresh:i∉s.ng
 all:∀y∈s.stack,Nu G y i
structure xU (G : Nat -> List Nat) (P : Nat -> Prop) (i : Nat) (s s' : TS) : Prop where
 inv:Inv G P s'
 ng:∃l,s'.ng=s.ng++i::l
 jd:∃cs,s'.jd=s.jd++cs
 low:∀x∈s.ng,s'.low x=s.low x
 NY:s'.low i<=s'.num i
 OY:∃z∈s'.ng,s'.num z=s'.low i/\Nu G i z/\(z∈s'.stack\/z=i)
 sP:∃new,s'.stack=s.stack++new/\∀y∈new,∀z∈G y,z∈s.stack->s'.low i<=s'.num z
structure LI (G : Nat -> List Nat) (P : Nat -> Prop) (i : Nat) (s0 : TS) (ks : List Nat) (s : TS) : Prop where
 inv:Inv G (λx=>P x\/x=i) s
 pre:J5 G P i s0
 ng:∃l,s.ng=s0.ng++i::l
 jd:∃cs,s.jd=s0.jd++cs
 low:∀x∈s0.ng,s.low x=s0.low x
 done:∀k∈ks,k∈s.ng
 NY:s.low i<=s.num i
 OY:∃z∈s.stack,s.num z=s.low i/\Nu G i z
 K5:∀k∈ks,k∈s0.stack->s.low i<=s.num k
 sP:∃new,s.stack=s0.stack++i::new/\∀y∈new,∀z∈G y,z∈s0.stack->s.low i<=s.num z
theorem rM{m:List Nat}(h:j∈Q):(Q++m).idxOf j=Q.idxOf j:=by
 grind
theorem sM{m:List Nat}(h:j∉Q):(Q++j::m).idxOf j=Q.length:=by
 grind
theorem xF(h:j∈Q):Q.idxOf j<Q.length:=Yc h
def Lw(f:Nat->Nat)(i v:Nat):Nat->Nat:=λx=>if x=i then v else f x
theorem Qm(f:Nat->Nat)(i v:Nat):Lw f i v i=v:=by simp[Lw]
theorem Rm(f:Nat->Nat){x:Nat}(v:Nat)(h:x≠j):Lw f j v x=f x:=by simp[Lw,h]
def TS.push(s:TS)(i:Nat):TS:=⟨s.ng++[i],s.stack++[i],Lw s.low i s.ng.length,s.jd⟩
def TS.lower(s:TS)(i v:Nat):TS:=⟨s.ng,s.stack,Lw s.low i (min (s.low i) v),s.jd⟩
theorem Inv.ze{P:Nat->Prop}(h:Inv G P O)(a:j∈O.stack):j∈O.ng:=(h.part j).2 (.inl a)
theorem yU{P:Nat->Prop}(h:J5 G P j O):LI G P j O [] (O.push j):=by
 obtain⟨c,l,n⟩:=h;have d:∀x∈O.ng,(O.push j).num x=O.num x:=λx f=>rM f
 have m:(O.push j).num j=O.ng.length:=sM l;have s:j∉O.stack:=λe=>l (c.ze e)
 refine⟨?_,⟨c,l,n⟩,⟨[],rfl⟩,⟨[],by simp[TS.push]⟩,?_,Aa,?_,?_,Aa,⟨[],rfl,Aa⟩⟩
 ·refine⟨?_,?_,?_,?_,?_,c.cl,c.sc,?_,?_,c.once,c.ne,?_⟩
  ·show(O.ng++[j]).Nodup
   rw[Ge];exact⟨c.vn,Aa,λa i b k e=>by grind⟩
  ·show(O.stack++[j]).Pairwise _
   rw[Xf];refine⟨c.ord.imp_of_mem λ{a b} n k o=>by rw[d a (c.ze n),d b (c.ze k)];exact o,Aa,λa i b k=>?_⟩;simp at k;rw[k,d a (c.ze i),m];exact xF (c.ze i)
  ·show(O.stack++[j]).Pairwise _
   rw[Xf];exact⟨c.up,Aa,λa i b k=>by grind⟩
  {rintro x (f|rfl);{exact Hg _ (c.pg x f)};{exact we _ Aa}}
  {intro y g;(rcases List.mem_append.1 g with g|g);{obtain⟨x,i,q,r⟩:=c.dn y g;exact⟨x,.inl i,by rw[d x (c.ze (c.pg x i)),d y (c.ze g)];exact q,r⟩};{simp at g;subst g;exact⟨y,.inr rfl,ja,.refl _⟩}}
  ·intro x
   show x∈O.ng++[j]↔x∈O.stack++[j]\/_
   rw[Hf,Hf,c.part];constructor
   ·rintro((h|h)|h)
    ·grind
    {exact .inr h}
    grind
   ·rintro((h|h)|h)
    ·grind
    {exact .inr h}
    {exact .inl (.inr h)}
  {intro x f p;(rcases List.mem_append.1 f with f|f);{exact c.apart x f p};{simp at f;subst f;exact l ((c.part x).2 (.inr p))}}
  ·intro x f t y g
   rcases List.mem_append.1 f with f|f
   {exact Hg _ (c.bl x f (λh=>t (.inl h)) y g)}
   grind
 {intro x f;exact Rm _ _ (λe=>l (e▸f))}
 ·show Lw _ j _ j<=_
  grind [Qm]
 {refine⟨j,we _ Aa,?_,.refl _⟩;show _=Lw _ j _ j;rw[Qm,m]}
theorem LI.mem{P:Nat->Prop}{s:TS}(h:LI G P j O Q s):j∈s.stack:=by
 obtain⟨new,a,_⟩:=h.sP;rw[a];simp
theorem LI.L5{P:Nat->Prop}{s:TS}(h:LI G P j O Q s){x:Nat}(b:x∈O.ng):x∈s.ng:=by
 obtain⟨l,a⟩:=h.ng;grind
theorem LI.PY{P:Nat->Prop}{s:TS}(h:LI G P j O Q s){x:Nat}(b:x∈O.stack):x∈s.stack:=by
 obtain⟨l,a,_⟩:=h.sP;grind
theorem LI.M5{P:Nat->Prop}{s:TS}(h:LI G P j O Q s){x:Nat}(b:x∈O.ng):s.num x=O.num x:=by
 obtain⟨l,a⟩:=h.ng;grind [TS.num]
theorem LI.all{P:Nat->Prop}{i:Nat}{e s:TS}{d:List Nat}(h:LI G P i e d s):∀y∈s.stack,Nu G y i:=by
 intro y c;obtain⟨x,a,_,b⟩:=h.inv.dn y c;rcases a with a|rfl
 {exact b.trans (h.pre.all x (h.pre.inv.pg x a))}
 {exact b}
theorem LI.child{P:Nat->Prop}{k:Nat}{s:TS}(h:LI G P j O Q s)(b:k∈G j)(a:k∉s.ng):J5 G (λx=>P x\/x=j) k s:=
 ⟨h.inv,a,λy c=>(h.all y c).snoc b⟩
theorem Inv.lower{P:Nat->Prop}{s:TS}(h:Inv G P s)(i v:Nat):Inv G P (s.lower i v):=⟨h.vn,h.ord,h.up,h.pg,h.dn,h.cl,h.sc,h.part,h.apart,h.once,h.ne,h.bl⟩
theorem LI.fresh{P:Nat->Prop}{i k:Nat}{C s a:TS}{B:List Nat}(h:LI G P i C B s)(F:k∈G i)(A:k∉s.ng)(g:xU G (λx=>P x\/x=i) k s a):
  LI G P i C (B++[k]) (a.lower i (a.low k)):=by
 obtain⟨l,Q⟩:=h.ng;obtain⟨N,I⟩:=g.ng;have o:=h.inv.ze h.mem;have H:k≠i:=λe=>A (e▸o)
 have f:∀x∈s.ng,a.num x=s.num x:=λx b=>by grind [TS.num]
 have M:a.num k=s.ng.length:=by grind [TS.num]
 have j:=g.low i o;have d:(a.lower i (a.low k)).low i=min (s.low i) (a.low k):=by show Lw _ _ _ _=_;rw[Qm,j]
 have t:∀x∈s.ng,x∈a.ng:=λx b=>by grind
 have L:s.num i<s.ng.length:=xF o;refine⟨g.inv.lower _ _,h.pre,⟨l++k::N,by show a.ng=_;grind⟩,?_,?_,?_,?_,?_,?_,?_⟩
 {obtain⟨c,O⟩:=h.jd;obtain⟨D,hc'⟩:=g.jd;exact⟨c++D,by show a.jd=_;grind⟩}
 {intro x b;show Lw _ _ _ _=_;rw[Rm _ _ (λe=>h.pre.fresh (by grind)),g.low x (h.L5 b),h.low x b]}
 {intro x b;(rcases List.mem_append.1 b with b|b);{exact t x (h.done x b)};{simp at b;subst b;show x∈a.ng;grind}}
 {rw[d];show _<=a.num i;rw[f i o];exact ub ja h.NY}
 {rw[d];by_cases hlt:a.low k<s.low i;{obtain⟨z,v,p,q,r⟩:=g.OY;refine⟨z,?_,by show a.num z=_;omega,.step F q⟩;(rcases r with r|rfl);{exact r};{have:=h.NY;omega}};{obtain⟨z,v,p,q⟩:=h.OY;obtain⟨new,J,_⟩:=g.sP;refine⟨z,by show z∈a.stack;grind,?_,q⟩;show a.num z=_;rw[f z (h.inv.ze v),p];omega}}
 {intro x b m;rw[d];show _<=a.num x;(rcases List.mem_append.1 b with b|b);{rw[f x (h.done x b)];exact ub ja (h.K5 x b m)};{simp at b;subst b;exact absurd (h.inv.ze (h.PY m)) A}}
 ·obtain⟨new,J,p⟩:=h.sP
  obtain⟨n,K,E⟩:=g.sP;refine⟨new++n,by show a.stack=_;grind,?_⟩;intro y u z v w;rw[d]
  show _<=a.num z
  rcases List.mem_append.1 u with u|u
  ·rw[f z (h.L5 (h.pre.inv.ze w))]
   grind
  grind
theorem LI.on{P:Nat->Prop}{k:Nat}{s:TS}(h:LI G P j O Q s)(l:k∈G j)(hs:k∈s.stack):LI G P j O (Q++[k]) (s.lower j (s.num k)):=by
 have b:(s.lower j (s.num k)).low j=min (s.low j) (s.num k):=by show Lw _ _ _ _=_;rw[Qm]
 refine⟨h.inv.lower _ _,h.pre,h.ng,h.jd,?_,?_,?_,?_,?_,?_⟩
 {intro x a;show Lw _ _ _ _=_;rw[Rm _ _ (λe=>h.pre.fresh (by grind)),h.low x a]}
 {intro x a;(rcases List.mem_append.1 a with a|a);{exact h.done x a};{simp at a;subst a;exact h.inv.ze hs}}
 {rw[b];exact ub ja h.NY}
 {rw[b];by_cases hlt:s.num k<s.low j;{exact⟨k,hs,by show s.num k=_;omega,.Zs l⟩};{obtain⟨z,d,g,i⟩:=h.OY;exact⟨z,d,by show s.num z=_;omega,i⟩}}
 {intro x a c;rw[b];(rcases List.mem_append.1 a with a|a);{exact ub ja (h.K5 x a c)};{simp at a;subst a;exact Zf _ _}}
 {obtain⟨new,m,g⟩:=h.sP;exact⟨new,m,λy n z d f=>by rw[b];exact ub ja (g y n z d f)⟩}
theorem LI.off{P:Nat->Prop}{k:Nat}{s:TS}(h:LI G P j O Q s)(c:k∈s.ng)(hs:k∉s.stack):LI G P j O (Q++[k]) s:=by
 refine⟨h.inv,h.pre,h.ng,h.jd,h.low,?_,h.NY,h.OY,?_,h.sP⟩
 ·intro x a
  rcases List.mem_append.1 a with a|a
  {exact h.done x a}
  grind
 {intro x a b;(rcases List.mem_append.1 a with a|a);{exact h.K5 x a b};{simp at a;subst a;exact absurd (h.PY b) hs}}
theorem LI.stay{P:Nat->Prop}{s:TS}(h:LI G P j O (G j) s)(hne:s.low j≠s.num j):xU G P j O s:=by
 have hlt:=Nat.lt_of_le_of_ne h.NY hne;refine⟨⟨h.inv.vn,h.inv.ord,h.inv.up,λx b=>h.inv.pg x (.inl b),?_,h.inv.cl,h.inv.sc,h.inv.part,h.inv.apart,h.inv.once,h.inv.ne,?_⟩,h.ng,h.jd,h.low,h.NY,?_,?_⟩
 ·intro y a
  obtain⟨x,b,l,m⟩:=h.inv.dn y a;rcases b with b|rfl
  ·grind
  {obtain⟨z,c,k,f⟩:=h.OY;obtain⟨u,g,q,n⟩:=h.inv.dn z c;(rcases g with g|rfl);{exact⟨u,g,ja,m.trans (f.trans n)⟩};{omega}}
 {intro x b p y a;by_cases d:x=j;{subst d;exact h.done y a};{exact h.inv.bl x b (λe=>e.elim p d) y a}}
 {obtain⟨z,c,k,f⟩:=h.OY;exact⟨z,h.inv.ze c,k,f,.inl c⟩}
 ·obtain⟨new,o,l⟩:=h.sP
  refine⟨_,o,λy a z c i=>?_⟩;rcases List.mem_cons.1 a with rfl|a
  {exact h.K5 z c i}
  grind
def TS.pop(s:TS)(a c:List Nat):TS:=⟨s.ng,a,s.low,s.jd++[c]⟩
theorem LI.abx{P:Nat->Prop}{s:TS}(h:LI G P j O (G j) s)(N:s.low j=s.num j)(A:s.stack=O.stack++j::Q):
  xU G P j O (s.pop O.stack (j::Q)):=by
 obtain⟨d,R,U⟩:=h.sP;obtain rfl:d=Q:=by simp_all
 have l:=h.inv.ord;have q:=h.inv.up;rw[A,Xf]at l q;have i:∀x∈j::d,x∈s.stack:=λx f=>by grind
 have m:∀x∈j::d,x∉O.stack:=λx f t=>by grind
 have p:=λx f=>h.inv.ze (i x f)
 have o:∀x∈j::d,Nu G j x:=λx f=>by{(rcases List.mem_cons.1 f with rfl|f);{exact .refl _};simp_all}
 have z:∀x∈j::d,∀y∈G x,y∈j::d\/y∈s.jd.flatten:=by
  intro x f y k
  have F:y∈s.ng:=by
   rcases List.mem_cons.1 f with rfl|D
   {exact h.done y k}
   ·refine h.inv.bl x (p x f) (λe=>?_) y k
    rcases e with e|rfl
    {exact m x f (h.pre.inv.pg x e)}
    grind [List.pairwise_cons]
  rcases(h.inv.part y).1 F with J|g
  ·rw[A]at J
   rcases List.mem_append.1 J with t|t
   ·have T:=l.2.2 y t j Aa
    rcases List.mem_cons.1 f with rfl|D
    {have:=h.K5 y k t;omega}
    grind
   grind
  grind
 have n:∀x,x∈(s.pop O.stack (j::d)).jd.flatten↔x∈s.jd.flatten\/x∈j::d:=by
  intro x;show x∈(s.jd++[j::d]).flatten↔_
  grind
 refine⟨⟨h.inv.vn,l.1,q.1,h.pre.inv.pg,?_,?_,?_,?_,?_,?_,?_,?_⟩,h.ng,?_,h.low,?_,?_,⟨[],by simp[TS.pop],Aa⟩⟩
 {intro y k;obtain⟨x,f,K,L⟩:=h.pre.inv.dn y k;refine⟨x,f,?_,L⟩;show s.num x<=s.num y;rw[h.M5 (h.pre.inv.ze (h.pre.inv.pg x f)),h.M5 (h.pre.inv.ze k)];exact K}
 ·intro x f y k
  rw[n]at f⊢;rcases f with f|f
  {exact .inl (h.inv.cl x f y k)}
  grind
 ·intro c g x f y
  rcases List.mem_append.1 g with g|g
  {exact h.inv.sc c g x f y}
  ·simp at g;subst g
   constructor
   {intro k;exact⟨(h.all x (i x f)).trans (o y k),(h.all y (i y k)).trans (o x f)⟩}
   ·rintro⟨E,H⟩
    have hst:y∈j::d\/y∈s.jd.flatten:=by
     refine Nu.stays (C:=λy=>y∈j::d\/y∈s.jd.flatten) ?_ E (.inl f);rintro u (w|w) v B
     ·grind
     {exact .inr (h.inv.cl u w v B)}
    rcases hst with hst|hst
    {exact hst}
    {exact absurd (Nu.stays (λu w v B=>h.inv.cl u w v B) H hst) (h.inv.apart x (i x f))}
 ·intro x
  rw[n]
  show x∈s.ng↔x∈O.stack\/_
  rw[h.inv.part,A,Hf]
  grind
 {intro x f g;rw[n]at g;(rcases g with g|g);{exact h.inv.apart x (h.PY f) g};{exact m x g f}}
 ·show((s.jd++[j::d]).flatten).Nodup
  rw[List.flatten_append,Ge];refine⟨h.inv.once,?_,?_⟩
  ·simp only[List.flatten_cons,List.flatten_nil,ud]
   grind [List.Pairwise.imp]
  {intro a M b I e;simp only[List.flatten_cons,List.flatten_nil,ud]at I;subst e;exact h.inv.apart a (i a I) M}
 ·intro c g
  rcases List.mem_append.1 g with g|g
  {exact h.inv.ne c g}
  grind
 {intro x f S y k;by_cases r:x=j;{subst r;exact h.done y k};{exact h.inv.bl x f (λe=>e.elim S r) y k}}
 {obtain⟨c,g⟩:=h.jd;exact⟨c++[j::d],by show s.jd++_=_;grind⟩}
 {show s.low j<=s.num j;omega}
 {exact⟨j,p j Aa,N.symm,.refl _,.inr rfl⟩}
def TS.start:TS:=⟨[],[],λ_=>0,[]⟩
theorem tM(G:Nat->List Nat):Inv G (λ_=>False) TS.start:=by
 refine⟨Kd,.nil,.nil,λ_ h=>h.elim,?_,?_,?_,?_,?_,Kd,?_,?_⟩<;>simp[TS.start]
theorem Inv.empty(h:Inv G (λ_=>False) O):O.stack=[]:=by
 cases e:O.stack with| nil=>rfl| cons x l=>obtain⟨_,a,_⟩:=h.dn x (by rw[e];simp);exact a.elim
theorem Inv.outer(h:Inv G (λ_=>False) O)(b:j∉O.ng):J5 G (λ_=>False) j O:=⟨h,b,λy a=>by rw[h.empty]at a;cases a⟩
end Go.Proofs.YtdipkbobalnilaaGreatDoor.Tj
namespace Go.Proofs.YtdipkbobalnilaaGreatDoor.Tj
open Tryz
variable{O:TS}
variable{j:Nat}{E:TypeId}{Q:List Nat}
theorem Wn{e:Type}(key:e->Nat):∀ {l m:List e},l.Pairwise (λa b=>key a<key b)->m.Pairwise (λa b=>key a<key b)->(∀x,x∈l↔x∈m)->l=m
 | [],[],_,_,_=>rfl
 | [],b::m,_,_,h=>by have:=(h b).2 Aa;simp at this
 | a::l,[],_,_,h=>by have:=(h a).1 Aa;simp at this
 | a::l,b::m,c,d,h=>by
  rw[uj]at c d
  obtain rfl:a=b:=by
   grind
  rw[Wn key c.2 d.2 λx=>?_]
  grind
def fw(e:Nat->Nat->Bool):Nat->Nat->Nat->Bool
 | 0=>e
 | m+1=>λi k=>fw e m i k || (fw e m i m&& fw e m m k)
inductive Pl (e : Nat -> Nat -> Bool) (m : Nat) : Nat -> Nat -> Prop where
 | Zs {i k:Nat}:e i k=true->Pl e m i k
 | cons {i x k:Nat}:e i x=true->x<m->Pl e m x k->Pl e m i k
theorem Pl.mono{e:Nat->Nat->Bool}{a i k:Nat}(f:j<=a)(h:Pl e j i k):Pl e a i k:=by
 induction h with| Zs h=>exact .Zs h| cons b d _ c=>exact .cons b ja c
theorem Pl.trans{e:Nat->Nat->Bool}{i x k:Nat}(h:Pl e j i x)(b:x<j)(a:Pl e j x k):Pl e j i k:=by
 induction h with| Zs h=>exact .cons h b a| cons c d _ f=>exact .cons c d (f b a)
theorem tP(e:Nat->Nat->Bool):∀(m i k:Nat),fw e m i k=true↔Pl e m i k
 | 0,i,k=>⟨λh=>.Zs h,λh=>by cases h with|Zs h=>exact h|cons _ h _=>omega⟩
 | m+1,i,k=>by
  have b:=tP e m
  have a:∀i k,fw e (m+1) i k=true↔fw e m i k=true\/(fw e m i m=true/\fw e m m k=true):=by{intro i k;rw[fw];simp}
  constructor
  ·intro h
   rcases(a i k).1 h with h|⟨f,j⟩
   {exact((b i k).1 h).mono ja}
   {exact(((b i m).1 f).mono ja).trans ja (((b m k).1 j).mono ja)}
  ·intro h
   induction h with
   | Zs h=>exact(a _ _).2 (.inl ((b _ _).2 (.Zs h)))
   | @cons i x k f j _ d=>
    have c:=(b _ _).2 (.Zs f);by_cases l:x<m
    ·rcases(a x k).1 d with h|⟨n,g⟩
     {exact(a i k).2 (.inl ((b i k).2 (((b i x).1 c).trans l ((b x k).1 h))))}
     {exact(a i k).2 (.inr ⟨(b i m).2 (((b i x).1 c).trans l ((b x m).1 n)),g⟩)}
    {(obtain rfl:x=m:=ja);refine(a i k).2 (.inr ⟨c,?_⟩);(rcases(a x k).1 d with h|⟨_,g⟩);{exact h};{exact g}}
def eB(G:Nat->List Nat)(i k:Nat):Bool:=(G i).contains k
theorem zD(G:Nat->List Nat)(i k:Nat):eB G i k=true↔k∈G i:=by grind [eB]
theorem Dl{G:Nat->List Nat}(f:∀x,∀y∈G x,y<j)(i k:Nat):fw (eB G) j i k=true↔∃x,x∈G i/\Nu G x k:=by
 rw[tP];constructor
 {intro h;induction h with| Zs h=>exact⟨_,(zD _ _ _).1 h,.refl _⟩| cons a _ _ c=>{obtain⟨x,d,e⟩:=c;exact⟨_,(zD _ _ _).1 a,.step d e⟩}}
 {rintro⟨x,b,g⟩;induction g generalizing i with| refl x=>exact .Zs ((zD _ _ _).2 b)| step a _ c=>exact .cons ((zD _ _ _).2 b) (f _ _ b) (c _ a)}
def LA(e:Nat->Nat->Bool)(n i k:Nat):Bool:=fw e n i k&& fw e n k i
def Fp(e:Nat->Nat->Bool)(n i:Nat):Bool:=fw e n i i&& (List.range i).all λk=> !LA e n i k
def Uh(e:Nat->Nat->Bool)(n:Nat):List (List Nat):=((List.range n).filter (Fp e n)).map λi=>(List.range n).filter (LA e n i)
theorem dt(n:Nat):(List.range n).Pairwise (· < ·):=xh
theorem XI{e:Nat->Nat->Bool}{i:Nat}(c:i<j)(a:Fp e j i=true):((List.range j).filter (LA e j i)).head? =some i:=by
 unfold Fp at a;have b:LA e j i i=true:=by grind [LA]
 simp_all
def qh(G:Nat->List Nat):List Nat->Bool
 | []=>false
 | x::l=> !l.isEmpty || (G x).contains x
def key(l:List Nat):Nat:=l.head?.getD 0
theorem AD(e:Nat->Nat->Bool)(n:Nat):(Uh e n).Pairwise λa b=>key a<key b:=by
 unfold Uh
 grind [List.Pairwise.imp_of_mem,dt,key,XI]
theorem MA{G:Nat->List Nat}(t:∀x,∀y∈G x,y<j)(o:Inv G (λ_=>False) O)(I:∀x,x∈O.ng↔x<j)
  (g:List Nat->List Nat) (hsm:∀c x,x∈g c↔x∈c) (D:∀c,c∈O.jd->(g c).Pairwise (· < ·))
  (out:List (List Nat)) (Q:∀x,x∈out↔x∈(O.jd.filter (qh G)).map g) (S:out.Pairwise λa b=>key a<key b):
  out=Uh (eB G) j:=by
 refine Wn key S (AD _ _) λx=>?_
 rw[Q];have hst:=o.empty
 have A:∀x,x<j->x∈O.jd.flatten:=λx f=>by
  rcases(o.part x).1 ((I x).2 f)with h|h
  all_goals grind
 have hlt:=λc d x f=>(I x).1 ((o.part x).2 (.inr (List.mem_flatten.2 ⟨c,d,f⟩)))
 have C:∀c∈O.jd,qh G c=true->∀x∈c,fw (eB G) j x x=true:=by
  intro c d hn x f;rw[Dl t];cases c with
  | nil=>cases f
  | cons a l=>
   have two:∀u v,u∈a::l->v∈a::l->u≠v->∃y,y∈G u/\Nu G y u:=by{intro u v T hv' E;obtain⟨p,q⟩:=(o.sc _ d u T v).1 hv';cases p with| refl _=>omega| step e r=>exact⟨_,e,r.trans q⟩}
   simp only[qh,Bg,Bool.not_eq_true',List.contains_iff_mem]at hn;have R:=(List.sublist_flatten_of_mem d).nodup o.once;rcases hn with hn|hn
   ·cases l with
    | nil=>simp at hn
    | cons b l=>{(have N:a≠b:=λe=>by grind);by_cases n:x=a;{exact two x b f Aa ja};{exact two x a f Aa n}}
   {by_cases n:x=a;{rw[n];exact⟨a,hn,.refl _⟩};{exact two x a f Aa n}}
 have H:∀c∈O.jd,qh G c=true->∀x∈c,∀y,LA (eB G) j x y=true↔y∈c:=by
  intro c d hn x f y;unfold LA;rw[Ib,o.sc c d x f y];constructor
  {rintro⟨p,q⟩;rw[Dl t]at p q;obtain⟨u,J,K⟩:=p;obtain⟨v,L,M⟩:=q;exact⟨.step J K,.step L M⟩}
  ·rintro⟨p,q⟩
   by_cases U:x=y
   ·grind
   ·have hstep:∀u v,u≠v->Nu G u v->fw (eB G) j u v=true:=by
     intro u v E B;rw[Dl t];cases B with| refl _=>omega| step e r=>grind
    grind
 have heq:∀c∈O.jd,qh G c=true->∀x∈c,g c=(List.range j).filter (LA (eB G) j x):=by
  intro c d hn x f;refine Wn id (D c d) ((dt j).filter _) λy=>?_
  grind
 unfold Uh;constructor
 ·intro f
  obtain⟨c,d,rfl⟩:=List.mem_map.1 f;obtain⟨d,hn⟩:=List.mem_filter.1 d
  obtain⟨a,W⟩:∃a,a∈c:=by{cases c with| nil=>cases hn| cons a l=>simp_all}
  obtain⟨i,l,P⟩:∃i l,g c=i::l:=by{cases h:g c with| nil=>grind| cons i l=>grind}
  have m:=(hsm c i).1 (by grind)
  have F:∀k∈c,i<=k:=λk X=>by
   grind [List.pairwise_cons]
  refine List.mem_map.2 ⟨i,List.mem_filter.2 ⟨List.mem_range.2 (hlt c d i m),?_⟩,(heq c d hn i m).symm⟩
  grind [Fp]
 ·intro f
  obtain⟨i,z,rfl⟩:=List.mem_map.1 f;obtain⟨s,w⟩:=List.mem_filter.1 z;unfold Fp at w;rw[Ib]at w;obtain⟨c,d,m⟩:=List.mem_flatten.1 (A i (List.mem_range.1 s))
  have hn:qh G c=true:=by
   obtain⟨y,V,B⟩:=(Dl t i i).1 w.1;cases c with
   | nil=>cases m
   | cons a l=>
    cases l with
    | nil=>
     obtain rfl:i=a:=by grind
     have:=(o.sc _ d i m y).2 ⟨.Zs V,B⟩
     grind [qh]
    | cons b l=>simp[qh]
  grind
theorem BD{G:Nat->List Nat}(d:∀x,∀y∈G x,y<j)(h:Uh (eB G) j=[]):
  ∃B:Nat->Nat,∀x,x<j->∀y∈G x,B y<B x:=by
 have hno:∀x,x<j->fw (eB G) j x x=false:=by
  intro x g;rw[Tf];intro r;have hex:∃i,i<j/\fw _ j i i=true:=⟨x,g,r⟩
  have aux:∀m,(∃i,i<m/\i<j/\fw (eB G) j i i=true)->∃i,i<j/\Fp (eB G) j i=true:=by
   intro m
   induction m with
   | zero=>omega
   | succ m A=>
    rintro⟨i,e,f,C⟩;by_cases t:Fp (eB G) j i=true
    ·grind
    {unfold Fp at t;rw[C,tf,Bool.not_eq_true,List.all_eq_false]at t;obtain⟨k,F,J⟩:=t;(have b:LA (eB G) j i k=true:=by grind);unfold LA at b;rw[Ib]at b;have H:=List.mem_range.1 F;refine A ⟨k,ja,ja,?_⟩;rw[Dl d]at b⊢;obtain⟨⟨a,D,E⟩,n⟩:=b;obtain⟨c,hc,hd⟩:=(Dl d k i).1 n;exact⟨c,hc,hd.trans (.step D E)⟩}
  obtain⟨i,e,f⟩:=aux _ ⟨x,ja,g,r⟩;have:(List.range j).filter _∈Uh _ j:=List.mem_map.2 ⟨i,List.mem_filter.2 ⟨List.mem_range.2 e,f⟩,rfl⟩
  grind
 refine⟨λx=>(List.range j).countP λy=>decide (y=x) || fw (eB G) j x y,λx g y s=>?_⟩
 have o:∀z,(decide (z=y) || fw (eB G) j y z)=true->(decide (z=x) || fw (eB G) j x z)=true:=by{intro z hz;rw[Bg,decide_eq_true_iff]at hz;rw[Bg];right;rw[Dl d];(rcases hz with rfl|hz);{exact⟨_,s,.refl _⟩};{obtain⟨a,e,f⟩:=(Dl d y z).1 hz;exact⟨y,s,.step e f⟩}}
 have w:(decide (x=y) || fw (eB G) j y x)=false:=by{rw[Tf,ne_eq,Bg,decide_eq_true_iff];rintro(rfl|hc);{have:=hno x g;rw[(Dl d x x).2 ⟨x,s,.refl _⟩]at this;cases this};{obtain⟨a,e,f⟩:=(Dl d y x).1 hc;have:=hno x g;rw[(Dl d x x).2 ⟨y,s,.step e f⟩]at this;cases this}}
 have aux:∀(l:List Nat) (p q:Nat->Bool),(∀z,p z=true->q z=true)->∀x∈l,p x=false->q x=true->l.countP p<l.countP q:=by
  intro l p q v
  induction l with
  | nil=>grind
  | cons a l A=>
   intro x I K L;have u:l.countP p<=l.countP q:=List.countP_mono_left λz _=>v z
   grind
 exact aux _ _ _ o x (List.mem_range.2 g) w Aa
end Go.Proofs.YtdipkbobalnilaaGreatDoor.Tj
namespace Go.Proofs.YtdipkbobalnilaaGreatDoor
open Tryz
open Tj
variable{j:Nat}{E:TypeId}{Q:List Nat}
def N2(h:Nat->Bool)(rows:List (List Nat)):Nat->Nat->Bool
 | 0,_=>false
 | m+1,i=>h i&& !(rows.getD i []).any (N2 h rows m)
theorem Xn(h:Nat->Bool)(rows:List (List Nat))(n:Nat)(e:∀x,∀y∈rows.getD x [],y<n)(c:Nat->Nat)(a:∀x,x<n->∀y∈rows.getD x [],c y<c x):
  ∀m d i,i<n->c i<m->c i<d->N2 h rows m i=N2 h rows d i
 | 0,_,_,_,j,_=>by omega
 | _+1,0,_,_,_,k=>by omega
 | m+1,d+1,i,g,j,k=>by{unfold N2;congr 2;rw[Rc,Ye,Ye];constructor;{rintro⟨y,b,f⟩;have:=a i g y b;exact⟨y,b,by rw[<-Xn h rows n e c a m d y (e i y b) ja ja];exact f⟩};{rintro⟨y,b,f⟩;have:=a i g y b;exact⟨y,b,by rw[Xn h rows n e c a m d y (e i y b) ja ja];exact f⟩}}
theorem filter_lt{c:Type}{p q:c->Bool}(h:∀x,p x=true->q x=true):∀(l:List c) (y:c),y∈l->p y=false->q y=true->(l.filter p).length<(l.filter q).length
 | [],_,hy,_,_=>by cases hy
 | a::l,y,hy,d,e=>by
  have hle:(l.filter p).length<=(l.filter q).length:=by
   clear hy
   induction l with
   | nil=>simp
   | cons b l f=>
    grind
  rw[Jc,Jc];rcases List.mem_cons.1 hy with rfl|hy
  ·grind
  ·have:=filter_lt h l y hy d e
   grind
theorem Wx{G:Nat->List Nat}(c:∀x,∀y∈G x,y<j)(h:Uh (eB G) j=[]):
  ∃a:Nat->Nat,(∀x,a x<=j)/\∀x,x<j->∀y∈G x,a y<a x:=by
 obtain⟨a,b⟩:=BD c h;refine⟨λx=>((List.range j).filter λy=>decide (a y<a x)).length,λx=>?_,λx e y d=>?_⟩
 ·grind
 ·have f:=b x e y d
  refine filter_lt (λz g=>?_) _ y (List.mem_range.2 (c x y d)) Aa (by grind)
  grind
def y_(h:Nat->Bool)(rows:List (List Nat))(n:Nat)(i:Nat):Bool:=N2 h rows (n+1) i
theorem FY{h:Nat->Bool}{rows:List (List Nat)}(d:∀x,∀y∈rows.getD x [],y<j)(c:Nat->Nat)(hle:∀x,c x<=j)(a:∀x,x<j->∀y∈rows.getD x [],c y<c x)(i:Nat)(f:i<j):
  y_ h rows j i=(h i&& !(rows.getD i []).any (y_ h rows j)):=by
 unfold y_;rw[show N2 h rows _ i=(h i&& !(rows.getD i []).any _)from rfl];congr 2
 rw[Rc,Ye,Ye];have g:=hle i;constructor
 {rintro⟨y,b,e⟩;have:=a i f y b;exact⟨y,b,by rw[<-Xn h rows j d c a j _ y (d i y b) ja ja];exact e⟩}
 {rintro⟨y,b,e⟩;have:=a i f y b;exact⟨y,b,by rw[Xn h rows j d c a j (j+1) y (d i y b) ja ja];exact e⟩}
end Go.Proofs.YtdipkbobalnilaaGreatDoor
namespace Go.Proofs.YtdipkbobalnilaaGreatDoor.Tj
open Tryz
variable{O:TS}
variable{j:Nat}{E:TypeId}{Q:List Nat}
end Go.Proofs.YtdipkbobalnilaaGreatDoor.Tj
namespace Go.Proofs.YtdipkbobalnilaaGreatDoor
open Tryz
variable{j:Nat}{E:TypeId}{Q:List Nat}
section
variable {κ ν : Type} [BEq κ] [LawfulBEq κ]
theorem Ve:∀(l:List (κ×ν)) (k:κ) (v:ν),(ins l k v).lookup k=some v
 | [],k,v=>by simp[ins]
 | (a,x)::l,k,v=>by{unfold ins;cases h:k==a with| true=>simp| false=>rw[if_neg Aa,Ab,h];exact Ve l k v}
theorem ef:∀(l:List (κ×ν)) {k k':κ} (v:ν),k'≠k->(ins l k v).lookup k'=l.lookup k'
 | [],k,k',v,h=>by simp[ins,h]
 | (a,x)::l,k,k',v,h=>by{unfold ins;cases c:k==a with| true=>{(obtain rfl:k=a:=by simpa using c);(have b:(k'==k)=false:=by simpa using h);simp[List.lookup_cons,b]}| false=>{rw[if_neg Aa,Ab,Ab,ef l v h]}}
end
theorem zy{κ ν:Type}[BEq κ]:∀(l:List (κ×ν)) (k:κ) (v:ν),(ins l k v).length=if(l.lookup k).isNone then l.length+1 else l.length
 | [],k,v=>by simp[ins]
 | (a,x)::l,k,v=>by{unfold ins;cases b:k==a with| true=>simp[List.lookup_cons,b]| false=>{rw[if_neg Aa,Qb,zy,Ab,b];split<;>rfl}}
def Fl(ids:List Na):Nat->List (Na×Int)
 | 0=>[]
 | k+1=>ins (Fl ids k) (ids.getD k Ka) k
def Ay(rows:List (List Nat))(k i:Nat):List (List Nat):=if(rows.getD k []).contains i then rows else rows.set k (rows.getD k []++[i])
def dh(at_:List (Na×Int))(i:Nat)(rows:List (List Nat))(a:Na):List (List Nat):=
 match at_.lookup a with| none=>rows| some k=>Ay rows k.toNat i
def Ru(at_:List (Na×Int))(a:List (List Na)):Nat->List (List Nat)
 | 0=>List.replicate a.length []
 | i+1=>(a.getD i []).foldl (dh at_ i) (Ru at_ a i)
theorem uP(rows:List (List Nat))(k i:Nat):(Ay rows k i).length=rows.length:=by grind [Ay]
theorem LB(at_:List (Na×Int))(i:Nat)(rows:List (List Nat))(a:Na):(dh at_ i rows a).length=rows.length:=by
 grind [dh,uP]
theorem MB(at_:List (Na×Int))(i:Nat)(l:List Na)(rows:List (List Nat)):(l.foldl (dh at_ i) rows).length=rows.length:=by
 induction l generalizing rows with| nil=>rfl| cons a l b=>grind [LB]
theorem et(at_:List (Na×Int))(a:List (List Na)):∀i,(Ru at_ a i).length=a.length
 | 0=>by simp[Ru]
 | i+1=>by rw[Ru,MB,et]
theorem vP(rows:List (List Nat))(k i:Nat)(a:k<rows.length)(j:Nat):(Ay rows k i).getD j []=if j=k/\i∉rows.getD k []then rows.getD k []++[i]else rows.getD j []:=by
 grind [Ay]
theorem Gp(ids:List Na):∀(k:Nat),∀a x,(Fl ids k).lookup a=some x->0<=x/\x.toNat<k/\ids.getD x.toNat Ka=a
 | 0,a,x,h=>by cases h
 | k+1,a,x,h=>by
  rw[Fl]at h;by_cases e:a=ids.getD k Ka
  {rw[e,Ve]at h;(cases h);exact⟨ja,ja,by rw[e];rfl⟩}
  ·rw[ef _ _ e]at h
   obtain⟨b,c,d⟩:=Gp ids k a x h
   grind
theorem jt(ids:List Na):∀(k:Nat),k<=ids.length->∀a,(Fl ids k).lookup a=none↔a∉ids.take k
 | 0,_,a=>by simp[Fl]
 | k+1,c,a=>by{rw[Fl,Ta ja,Hf,Qd];(have b:ids.getD k Ka=ids[k]:=by rw[zc,Xa ja];rfl);rw[b];by_cases e:a=ids[k];{rw[e,Ve];simp};{rw[ef _ _ e,jt ids k ja a];simp[e]}}
theorem cL(ids:List Na):∀(k:Nat),k<=ids.length->(Fl ids k).length<=k/\((Fl ids k).length=k↔(ids.take k).Nodup)
 | 0,_=>by simp[Fl]
 | k+1,o=>by{obtain⟨n,f⟩:=cL ids k ja;(have l:ids.getD k Ka=ids[k]:=by rw[zc,Xa ja];rfl);have i:=jt ids k ja ids[k];rw[Fl,zy,l,Ta ja,Ge];by_cases e:(Fl ids k).lookup ids[k]=none;{rw[Ga (by rw[e];rfl)];refine⟨ja,?_⟩;have:=i.1 e;constructor;{intro h;exact⟨f.1 ja,Aa,λa j b g c=>by simp at g;subst g;subst c;exact this j⟩};{rintro⟨d,_⟩;rw[f.2 d]}};{rw[if_neg (by cases m:(Fl ids k).lookup ids[k]with|none=>exact absurd m e|some x=>simp)];refine⟨ja,?_⟩;constructor;{intro h;omega};{rintro⟨_,_,d⟩;have:ids[k]∈ids.take k:=by{refine Classical.byContradiction λh=>e (i.2 h)};exact absurd rfl (d _ this _ Aa)}}}
theorem uM{a:Type}{l:List a}(e:l.Nodup){b:Nat}(c:j<l.length)(d:b<l.length)(h:l[j]=l[b]):j=b:=by
 grind [List.pairwise_iff_getElem]
theorem vM{ids:List Na}(g:ids.Nodup)(a:Na)(k:Nat):(Fl ids ids.length).lookup a=some (k:Int)↔ids[k]? =some a:=by
 constructor
 ·intro h
  obtain⟨_,c,d⟩:=Gp ids _ a k h
  grind
 ·intro h
  obtain⟨e,rfl⟩:=List.getElem?_eq_some_iff.1 h;cases b:(Fl ids ids.length).lookup ids[k]with
  | none=>exact absurd (Oa e) (by have:=(jt ids _ (wa _) _).1 b;rwa[Ub]at this)
  | some x=>
   obtain⟨f,c,d⟩:=Gp ids _ _ x b
   grind [uM]
theorem yF(a b:Na):Lh a b=true↔a=b:=by grind [Lh,Hp]
theorem NB{ids:List Na}(n:ids.Nodup)(i:Nat)(k:Nat)(g:k<ids.length):∀(l:List Na) (rows:List (List Nat)),rows.length=ids.length->(∀x∈rows.getD k [],x<=i)->
  (l.foldl (dh (Fl ids ids.length) i) rows).getD k []=if xi l ids[k]=true/\i∉rows.getD k []then rows.getD k []++[i]else rows.getD k []
 | [],rows,_,_=>by simp[xi]
 | id::l,rows,m,j=>by
  rw[Nd]
  have hstep:(dh (Fl ids ids.length) i rows id).getD k []=if Lh id ids[k]=true/\i∉rows.getD k []then rows.getD k []++[i]else rows.getD k []:=by
   unfold dh;cases a:(Fl ids ids.length).lookup id with
   | none=>{have b:=(jt ids _ (wa _) id).1 a;rw[Ub]at b;rw[if_neg];rintro⟨c,_⟩;rw[yF]at c;exact b (c▸Oa g)}
   | some x=>
    obtain⟨b,c,o⟩:=Gp ids _ id x a
    grind [vP,yF,vM]
  rw[NB n i k g l _ (by rw[LB,m]) (by
   intro y d
   rw[hstep]at d
   split at d
   {(rcases List.mem_append.1 d with h|h);{exact j y h};{simp at h;omega}}
   ·exact j y d),hstep]
  have e:xi (id::l) ids[k]=(Lh id ids[k] || xi l ids[k]):=by simp[xi]
  rw[e];generalize rows.getD k []=r;by_cases f:i∈r
  {simp[f]}
  {cases b:Lh id _<;>cases c:xi l _<;>simp[f]}
theorem dL{ids:List Na}(g:ids.Nodup)(a:List (List Na))(f:a.length=ids.length)(k:Nat)(e:k<ids.length):∀(i:Nat),i<=a.length->
  (Ru (Fl ids ids.length) a i).getD k []=(List.range i).filter λj=>xi (a.getD j []) ids[k]
 | 0,_=>by grind [Ru]
 | i+1,m=>by{have l:=dL g a f k e i ja;have b:∀x∈(Ru (Fl ids ids.length) a i).getD k [],x<i:=by{rw[l];intro x d;exact List.mem_range.1 (List.mem_filter.1 d).1};rw[Ru,NB g i k e _ _ (by rw[et,f]) (λx d=>Dh (b x d)),l,Nk,yd];(have c:i∉(List.range i).filter λj=>xi (a.getD j []) ids[k]:=λh=>by{have:=List.mem_range.1 (List.mem_filter.1 h).1;omega});cases h:xi (a.getD i []) ids[k]with| true=>rw[Ga ⟨rfl,c⟩,Jc,Ga (by exact h),Jf]| false=>rw[if_neg Aa,Jc,if_neg (by rw[h];simp),Jf,ud]}
open Go.RowKit
def nV(x:Nat):Ea:=pa x
structure Hk (W : Ca) (base bb : Nat) (rows : List (List Nat)) (vs : List Ea) : Prop where
 len:vs.length=rows.length
 Pd:qb W bb 26 vs.toArray
 lt:bb<base
 own:∀k,k<rows.length->W.ownsRow base 3 1 (vs.getD k undef) (rows.getD k []).length ((rows.getD k []).map nV)
 yO:∀k k',k<rows.length->k'<rows.length->k≠k'->(vs.getD k undef).ownBlock=none\/(vs.getD k undef).ownBlock≠(vs.getD k' undef).ownBlock
theorem Hk.kept{W c:Ca}{base a:Nat}{rows:List (List Nat)}{j:List Ea}(h:Hk W base a rows j){row:Option Nat}(f:W.grownBy c row)(d:∀b,row=some b->b<base/\b≠a):Hk c base a rows j:=by
 refine⟨h.len,(f.block a h.Pd.lt (λe=>(d a e.symm).2 rfl)).trans h.Pd,h.lt,λk i=>(h.own k i).kept f ?_,h.yO⟩;rcases(h.own k i).2 with⟨e,_⟩|⟨g,cap,l,e,n,_⟩
 {rw[e];exact .inl rfl}
 {rw[e];right;intro m;have:=(d g (by simpa[Value.ownBlock]using m.symm)).1;omega}
theorem Kg{w a:Ca}(h:Bq j w a):w.grownBy a (some j):=⟨h.os,h.tape,h.output,De h.size.symm,λk b hne=>h.block k (λe=>hne (by rw[e]))⟩
theorem Hk.start{W:Ca}{n:Nat}(h:qb W j 26 (madeCells #[Ua] n)){base:Nat}(b:j<base):Hk W base j (List.replicate n []) (List.replicate n Ua):=by
 have d:madeCells #[Value.slice none 0 0] n=(List.replicate n (Value.slice none 0 0)).toArray:=by
  grind [madeCells]
 have c:∀k,k<n->(List.replicate n (Value.slice none 0 0)).getD k undef=Ua:=λk a=>by grind
 refine⟨Aa,by grind,b,λk a=>?_,λk k' a _ _=>?_⟩
 ·grind [World.ownsRow_nil]
 {simp at a;rw[c k a];exact .inl rfl}
theorem By(at_:List (Na×Int))(i k:Nat):∀(l:List Na) (rows:List (List Nat)),((l.foldl (dh at_ i) rows).getD k []).length<=(rows.getD k []).length+l.length
 | [],rows=>by simp
 | b::l,rows=>by{rw[Nd,Qb];have c:=By at_ i k l (dh at_ i rows b);have d:((dh at_ i rows b).getD k []).length<=(rows.getD k []).length+1:=by{unfold dh;(split);{omega};{rename_i x f;unfold Ay;(split);{omega};{by_cases e:x.toNat=k;{subst e;by_cases a:x.toNat<rows.length;{simp[a]};{simp[Nat.not_lt.1 a]}};{simp[List.getElem?_set_ne e]}}}};omega}
theorem wP(at_:List (Na×Int))(a:List (List Na))(h:∀l∈a,l.length<=40)(k:Nat):∀i,((Ru at_ a i).getD k []).length<=40*i
 | 0=>by grind [Ru]
 | i+1=>by{have c:=wP at_ a h k i;have d:=By at_ i k (a.getD i []) (Ru at_ a i);have e:(a.getD i []).length<=40:=by{rw[zc];cases b:a[i]? with| none=>simp| some l=>exact h l (vh b)};rw[Ru];omega}
theorem CD:(prog.info? 3).map (λi=>(i.zero,i.size,i.bytes))=some (some (pa 0),1,8):=by kernel_rfl
theorem Ip:∀w,(zeroValue 3).run prog w=.ok (pa 0) w:=Tryz.zeroValue3
theorem kt(l:List Nat)(k:Nat):((l.map λx:Nat=>(x:Int)).any λx=>(k:Int)==x)=l.contains k:=by
 grind
theorem Sm{W:Ca}{v:Ea}(h:W.ownsRow j 3 1 v Q.length (Q.map nV)){B:Nat}(n:W.heap.size<=B):IntsIn W B (Q.map λx:Nat=>(x:Int)) v:=by
 rcases h.2 with⟨rfl,b⟩|⟨g,cap,a,rfl,_,o,k,c,l,d⟩
 {have:=List.length_eq_zero_iff.1 b;subst this;exact⟨none,0,rfl,Lb _,ja,λe=>absurd rfl e⟩}
 ·refine⟨_,cap,by grind,by grind,c,λ_=>⟨g,0,rfl,?_,λi f=>?_⟩⟩
  ·grind
  ·rw[Va]at f
   have m:(a.toList.take (Q.length*1))[i]? =(Q.map nV)[i]? :=by rw[d]
   show W.cell? _=some _
   grind [World.cell?,nV]
theorem ED{W:Ca}{v:Ea}{n:Nat}{c:List Ea}(h:W.ownsRow j 3 1 v n c){b:Nat}(d:b<j):some b≠v.ownBlock:=by
 rcases h.2 with⟨rfl,_⟩|⟨g,cap,a,rfl,e,_⟩
 all_goals grind [Value.ownBlock]
theorem QY{W a:Ca}{b:Array Ea}(h:qb a j E b)(c:qb W j E b)(i:Nat):a.cell? (Ja j i)=W.cell? (Ja j i):=by rw[h.cell,c.cell]
theorem nt{a:Type}(l:List a)(k:Nat)(x d:a)(b:k<l.length)(j:Nat):(l.set k x).getD j d=if j=k then x else l.getD j d:=by
 grind
theorem Hk.append{wr l:Ca}{f k' i k cap:Nat}{R:List (List Nat)}{p:List Ea}{y:Ea}(h:Hk wr j f R p)(v:k'<R.length)(D:p.getD k' undef=y)(G:j<=wr.heap.size)
  (t:(wr.alloc (.cells #[pa (i:Int)] 3)).drew.grownBy l y.ownBlock) (m:l.ownsRow j 3 1 (.slice (Nb k) ((R.getD k' []).length+1) cap) ((R.getD k' []).length+1) ((R.getD k' []).map nV++[pa (i:Int)]))
  (lF:y.ownBlock=some k\/k=wr.heap.size+1):
  Hk (l.setCell (Ja f k') (.slice (Nb k) ((R.getD k' []).length+1) cap)) j f (R.set k' (R.getD k' []++[i])) (p.set k' (.slice (Nb k) ((R.getD k' []).length+1) cap))/\
  (∀b,b<j->b≠f->(l.setCell (Ja f k') (.slice (Nb k) ((R.getD k' []).length+1) cap)).heap[b]? =wr.heap[b]?)/\
  Da f wr (l.setCell (Ja f k') (.slice (Nb k) ((R.getD k' []).length+1) cap)):=by
 have n:=h.own k' v;rw[D]at n;have F:=h.Pd.lt;have q:∀b,b<j->some b≠y.ownBlock:=λb s=>ED n s
 have hsz:(wr.alloc (.cells #[pa i] 3)).drew.heap.size=wr.heap.size+1:=Ia _ _;have hblk:qb l f 26 _:=(t.block f ja (q f h.lt)).trans (qb.alloc h.Pd _);have K:wr.heap.size+1<=l.heap.size:=by have:=t.size;omega
 have hold:∀b,b<j->b≠f->(l.setCell (Ja f k') (.slice (Nb k) ((R.getD k' []).length+1) cap)).heap[b]? =wr.heap[b]? :=λb s hne=>(Oc _ _ _ b hne).trans ((t.block b ja (q b s)).trans (Bd _ _ b ja))
 have I:=grownBy_setCell' l f (.slice (Nb k) ((R.getD k' []).length+1) cap);refine⟨⟨by simp[h.len],?_,h.lt,?_,?_⟩,hold,?_⟩
 ·have:=hblk.set k' (.slice (Nb k) ((R.getD k' []).length+1) cap)
  grind
 ·intro d u
  rw[Cg]at u
  have r:l.grownBy (l.setCell (Ja f k') (.slice (Nb k) ((R.getD k' []).length+1) cap)) (some f):=
   ⟨rfl,rfl,rfl,by simp_all,λb _ hne=>Oc _ _ _ b (λe=>hne (by rw[e]))⟩
  rw[nt _ _ _ _ (by rw[h.len];exact v),nt _ _ _ _ v];by_cases e:d=k'
  {rw[Ga e,Ga e,Qa,Pb];refine m.kept r (.inr ?_);have:=m.2;(rcases this with⟨e,_⟩|⟨g,c,w,e,x,_⟩);{cases e};{(cases e);simp only[Value.ownBlock];intro e;simp at e;have:=h.lt;omega}}
  ·rw[if_neg e,if_neg e]
   have h1:=(h.own d u).kept (World.grownBy_alloc wr (.cells #[pa i] 3) none) (by
    grind)
   have E:l.ownsRow j 3 1 (p.getD d undef) (R.getD d []).length ((R.getD d []).map nV):=by
    have A:(wr.alloc _).drew.ownsRow j 3 1 _ _ _:=h1;refine A.kept t ?_;have:=h.yO d k' u v e
    grind
   refine E.kept r ?_;rcases E.2 with⟨o,_⟩|⟨g,c,w,o,x,_⟩
   {rw[o];exact .inl rfl}
   {rw[o];right;simp only[Value.ownBlock];intro e;simp at e;have:=h.lt;omega}
 ·intro a b B s C
  rw[Cg]at B s;rw[nt _ _ _ _ (by rw[h.len];exact v),nt _ _ _ _ (by rw[h.len];exact v)]
  have hlt:∀d,d<R.length->∀g,(p.getD d undef).ownBlock=some g->g<wr.heap.size:=by{intro d u g H;(rcases(h.own d u).2 with⟨o,_⟩|⟨L,c,w,o,_,x,_⟩);all_goals grind [Value.ownBlock]}
  have key:∀d,d<R.length->d≠k'->(p.getD d undef).ownBlock=none\/(p.getD d undef).ownBlock≠some k:=by
   intro d u hne;cases J:(p.getD d undef).ownBlock with
   | none=>grind
   | some g=>
    right
    intro e;simp at e;subst e;rcases lF with lF|lF
    {(rcases h.yO d k' u v hne with h1|h1);all_goals grind}
    grind
  by_cases o:a=k'<;>by_cases z:b=k'
  {omega}
  ·rw[Ga o,if_neg z]
   right
   show some k≠(p.getD b undef).ownBlock
   grind
  {rw[if_neg o,Ga z];exact key a B o}
  {rw[if_neg o,if_neg z];exact h.yO a b B s C}
 ·refine⟨?_,?_,?_,?_,λb s=>hold b (by have:=h.lt;omega) ja⟩
  {exact t.os}
  {exact t.tape}
  {exact t.output}
  ·show wr.heap.size<=(l.heap.modify _ _).size
   grind
theorem Wb.of_block{κ ν:Type}{b:κ->Ea}{d:ν->Ea}{W a:Ca}{l:List (κ×ν)}(h:Wb b d W j l)(e:a.heap[j]? =W.heap[j]?):Wb b d a j l:=by
 obtain⟨f,c,g,i⟩:=h;exact⟨f,c,e.trans g,i⟩
theorem run_len_map{κ ν:Type}{b:κ->Ea}{e:ν->Ea}{P:Program}{K a:TypeId}{W:Ca}{l:List (κ×ν)}(h:Wb b e W j l)(k:P.underlying E=some (.map K a))(m:TypeId):
  (Builtin.len_ #[E] m #[.map (some j)]).run P W=.ok (pa (l.length:Nat)) W:=by
 obtain⟨d,c,f,g⟩:=h;have i:d.size=l.length:=by have:=congrArg List.length g;grind
 rw[<-i];simp[Builtin.len_,run_underlying k,Tg f,goInt]
theorem xP:∀(n:Nat),n<=10000->∀w,(Instr.makeSlice 132 (pa (n:Int)) (pa (n:Int))).run prog w=.ok (.slice (Nb w.heap.size) n n) (w.alloc (.cells (madeCells #[Ua] n) 26)):=λn a w=>
 run_make_row' 132 26 _ 24 Tryz.underlying132 Ha rfl _ _ n ja ja w
structure yP (W : Ca) (B nb : Nat) (u1 u2 u3 : Ea) (ids : List Na) (rows : List (List Nat)) : Prop where
 Pd:∃mb bb,qb W nb 163 #[u1,u2,u3,.map (some mb),.slice (Nb bb) rows.length rows.length]/\Wb Value.string (Value.int .i64) W mb (Fl ids ids.length)/\(∃base vs,Hk W base bb rows vs)/\B<=nb/\B<=mb/\B<=bb
theorem RY(W:Ca)(a:Array Ea)(n:Nat)(b:W.heap.size=j):
  Hid (Da j W (((((W.alloc (.cells (madeCells #[Ua] n) 26)).alloc (.map #[] 0)).alloc (.cells a 163)).drew)))/\Hid (qb ((((W.alloc (.cells (madeCells #[Ua] n) 26)).alloc (.map #[] 0)).alloc (.cells a 163)).drew) (j+1+1) 163 a)/\
  Hid (Wb Value.string (Value.int .i64) ((((W.alloc (.cells (madeCells #[Ua] n) 26)).alloc (.map #[] 0)).alloc (.cells a 163)).drew) (j+1) [])/\
  Hid (qb ((((W.alloc (.cells (madeCells #[Ua] n) 26)).alloc (.map #[] 0)).alloc (.cells a 163)).drew) j 26 (madeCells #[Ua] n)):=by
 subst b;refine⟨((((za _ _).alloc ja _).alloc Aa _).alloc (by simp;omega) _).drew,?_,?_,?_⟩
 {have h:=qb.new ((W.alloc (.cells (madeCells #[Ua] n) 26)).alloc (.map #[] 0)) 163 a;simp at h;exact h}
 {have h:=(Wb.made (ek:=Value.string) (ev:=Value.int .i64) (W.alloc (.cells (madeCells #[Ua] n) 26))).alloc (.cells a 163);rw[Ia]at h;exact h}
 {exact qb.alloc (qb.alloc (qb.new W 26 _) _) _}
theorem SY(W:Ca)(a:Array Ea)(n:Nat)(b:W.heap.size=j):
  Hid (Da j W (((((W.alloc (.map #[] 0)).alloc (.cells (madeCells #[Ua] n) 26)).alloc (.cells a 163)).drew)))/\Hid (qb ((((W.alloc (.map #[] 0)).alloc (.cells (madeCells #[Ua] n) 26)).alloc (.cells a 163)).drew) (j+1+1) 163 a)/\
  Hid (Wb Value.string (Value.int .i64) ((((W.alloc (.map #[] 0)).alloc (.cells (madeCells #[Ua] n) 26)).alloc (.cells a 163)).drew) j [])/\
  Hid (qb ((((W.alloc (.map #[] 0)).alloc (.cells (madeCells #[Ua] n) 26)).alloc (.cells a 163)).drew) (j+1) 26 (madeCells #[Ua] n)):=by
 subst b;refine⟨((((za _ _).alloc ja _).alloc Aa _).alloc (by simp;omega) _).drew,?_,?_,?_⟩
 {have h:=qb.new ((W.alloc (.map #[] 0)).alloc (.cells (madeCells #[Ua] n) 26)) 163 a;simp at h;exact h}
 {exact(Wb.alloc (Wb.alloc (Wb.made W) _) _)}
 {have h:=qb.alloc (qb.new (W.alloc (.map #[] 0)) 26 (madeCells #[Ua] n)) (.cells a 163);rw[Ia]at h;exact h}
theorem Law.Dg:(prog.info? 28).map (·.size)=some 3:=by kernel_rfl
theorem kP(d:List Fa)(a:List Pv)(v:Ea)(w:Ca)(B:Nat)(hn:a.length<=1000)(hB:B<=w.heap.size)(Q:ur w B d a v)(hex:∀p∈a,p.except.length<=40):
  Db 60 #[v] w λe w'=>∃r u1 u2 u3 ok,v=.agg #[u1,u2,u3]/\e=.returned (.tuple #[Ma r,.bool ok])/\ok=decide ((Fl (a.map Pv.id) a.length).length=a.length)/\
   yP w' w.heap.size r u1 u2 u3 (a.map Pv.id) (Ru (Fl (a.map Pv.id) a.length) (a.map Pv.except) a.length)/\Da w.heap.size w w':=by
 obtain⟨u1,u2,h,J,E,rfl,hd,hp⟩:=Q;obtain⟨G,I,rfl,d1,d2,_⟩:=Sa.shape hd;obtain⟨H,A,rfl,p1,p2,_⟩:=Sa.shape hp;unfold maxLen at d2 p2;have HP:=la hp;have zO:=@run_makeMap prog;have hmr:=λw=>xP a.length ja w
 clear hd hp;go_enter func60,ntmps60;go_upto_region 1 with(fail)
 go_cut[4] (λs4 wx=>∃r z m,s4=Ma r/\Hid (z≠m/\z≠r/\m≠r/\w.heap.size<z/\w.heap.size<m/\w.heap.size<r/\z<w.heap.size+4/\m<w.heap.size+4/\r<w.heap.size+4/\w.heap.size+4<=wx.heap.size)/\
  Hid (Da (w.heap.size+1) (w.alloc (.cells #[.slice G d.length I,.slice H a.length A,.slice h J E] 28)) wx)/\Hid (qb wx r 163 #[.slice G d.length I,.slice H a.length A,.slice h J E,.map (some z),.slice (Nb m) a.length a.length])/\
  Hid (Wb Value.string (Value.int .i64) wx z [])/\Hid (qb wx m 26 (madeCells #[Ua] a.length)))
 case first=>(go_wp2;go_region;{go_wp2;go_meet;exact⟨w.heap.size+1+1+1,w.heap.size+1,w.heap.size+1+1,rfl,⟨ja,ja,ja,ja,ja,ja,ja,ja,ja,Aa⟩,SY (w.alloc (.cells #[.slice G d.length I,.slice H a.length A,.slice h J E] 28)) _ a.length (Ia _ _)⟩};{go_wp2;go_meet;exact⟨w.heap.size+1+1+1,w.heap.size+1+1,w.heap.size+1,rfl,⟨ja,ja,ja,ja,ja,ja,ja,ja,ja,Aa⟩,RY (w.alloc (.cells #[.slice G d.length I,.slice H a.length A,.slice h J E] 28)) _ a.length (Ia _ _)⟩})
 case rest=>
  obtain⟨r,z,m,rfl,hne,V,hnb,hmb,wM⟩:=hcut;have yx:=V.o.size;simp only[Ia]at yx;obtain⟨n1,n2,n3,n4,n5,n6,n7,n8,n9,n10⟩:=hne.o;clear hmr zO;have Ou:=la (qb.new w 28 #[.slice G d.length I,.slice H a.length A,.slice h J E]);have c1:=(V.o.cell (p:=Ja w.heap.size 1) Aa).trans (show _=some (Value.slice H a.length A)from qb.cell Ou.o 1);have NA:Hid ((a.map Pv.id).length=a.length):=Va ..;clear hne;go_wp2
  go_loopw [24] (λi wr=>∃k:Nat,k<=a.length/\i=pa k/\Hid (Wb Value.string (Value.int .i64) wr z (Fl (a.map Pv.id) k))/\Hid (qb wr r 163 #[.slice G d.length I,.slice H a.length A,.slice h J E,.map (some z),.slice (Nb m) a.length a.length])/\Hid (qb wr m 26 (madeCells #[Ua] a.length))/\
   Hid (Da (w.heap.size+1) (w.alloc (.cells #[.slice G d.length I,.slice H a.length A,.slice h J E] 28)) wr)/\w.heap.size+4<=wr.heap.size) (λi _=>a.length-(intOf i).toNat)
  case atStart=>exact⟨0,Lb _,rfl,hmb,hnb,wM,V,n10⟩
  case round=>
   obtain⟨k,hk,rfl,y,f,hbr,g,hsz⟩:=hrel;have b0:=la (((za w.heap.size w).alloc (wa _) (.cells #[.slice G d.length I,.slice H a.length A,.slice h J E] 28)).trans (g.o.mono ja));by_cases hlt:k<a.length
   ·obtain⟨b,off,rfl,Tn,ak,ck,ae,Y,hr,hf,he,hz⟩:=Sa.at (HP.o.below jm.kept (b0.o.mono hB)) k hlt
    have hgk:Hid ((a.map Pv.id).getD k Ka=a[k].id):=by show _=_;simp[List.getD_eq_getElem?_getD,hlt]
    generalize X:a[k]=p at*
    have KO:=la hr;clear hr hf he hz X;go_wp2_with (first|((with_reducible show wpList _ _ _ (⟨_,Op.load 38 (.tmp 27),_,_,_,_⟩::_) _ _);refine Lc rfl (.tmp 27) rfl rfl p ak ck ae Y KO.o Tryz.underlying38 rfl Pv.Dg ?_)|((with_reducible show wpList _ _ _ (⟨_,Op.store 38 (.tmp 6) (.tmp 28),_,_,_,_⟩::_) _ _);refine Vc rfl (.tmp 6) (.tmp 28) rfl p ak ck ae Y rfl rfl ?Sj Pv.Dg ?_;(case Sj=>rfl);intro W1 n Un s Mu;have FD:=s 0 _ rfl;have fP:=la s;clear s));have M:=qb.below f.o n;have v3:W1.cell? (Ja r 3)=some (.map (some z)):=M.cell 3;obtain⟨w',hrun,O5,hu⟩:=run_store GD.key Tryz.underlying87 (show Wb Value.string (Value.int .i64) W1.drew z (Fl (a.map Pv.id) k)from y.o.below n.drew y.o.lt) p.id (k:Int);have vp:=la n;have HM:=la O5;have HU:=la hu;have qS:=la M;clear n O5 hu M Mu;have P5:=HU.o.size;have OA:=la (HU.o.below (B:=w.heap.size+1) ja)
    go_region
    all_goals go_wp2
    all_goals
     go_roundw
     case rel=>(refine⟨k+1,ja,by go_num,by show Wb _ _ _ _ (ins _ _ _);rw[hgk.o];exact HM.o,(HU.o.block _ ja).trans qS.o,(HU.o.block _ ja).trans (qb.below hbr.o vp.o.drew),(g.o.trans (vp.o.drew.mono ja)).trans OA.o,?_⟩;rw[P5];show _<=W1.heap.size;omega)
     case measure=>simp[intOf];omega
   ·have C:k=a.length:=by omega
    subst C;clear hk hlt;have c1r:=(g.o.cell (p:=Ja w.heap.size 1) Aa).trans (show _=some (Value.slice H a.length A)from qb.cell Ou.o 1);have TY:=Hk.start hbr.o (by omega:m<wr.heap.size);have HR0:=la TY;have HN:=f;have HM:=y;have vO:=g;clear TY f y hbr g V hnb hmb wM c1;go_wp2;obtain⟨ws,rfl⟩:∃ws:Ca,ws=wr:=⟨_,rfl⟩
    go_loopw [40] (λi wr=>∃(k:Nat) (vs:List Ea),k<=a.length/\i=pa k/\Hid (Wb Value.string (Value.int .i64) wr z (Fl (a.map Pv.id) a.length))/\Hid (qb wr r 163 #[.slice G d.length I,.slice H a.length A,.slice h J E,.map (some z),.slice (Nb m) a.length a.length])/\
     Hid (Hk wr ws.heap.size m (Ru (Fl (a.map Pv.id) a.length) (a.map Pv.except) k) vs)/\Hid (Da (w.heap.size+1) (w.alloc (.cells #[.slice G d.length I,.slice H a.length A,.slice h J E] 28)) wr)/\ws.heap.size<=wr.heap.size) (λi _=>a.length-(intOf i).toNat)
    case atStart=>exact⟨0,_,Lb _,rfl,HM,HN,by rw[Ru,Va];exact HR0,vO,wa _⟩
    case round=>
     obtain⟨k,vs,hk,rfl,y,f,c,g,Q5⟩:=hrel;have b0:=la (((za w.heap.size w).alloc (wa _) (.cells #[.slice G d.length I,.slice H a.length A,.slice h J E] 28)).trans (g.o.mono ja));by_cases hlt:k<a.length
     ·obtain⟨b,off,rfl,Tn,ak,ck,ae,Y,hr,hf,he,hz⟩:=Sa.at (HP.o.below jm.kept (b0.o.mono hB)) k hlt
      have hgk:Hid ((a.map Pv.except).getD k []=a[k].except):=by show _=_;simp[List.getD_eq_getElem?_getD,hlt]
      have agS:=hex _ (Oa hlt);generalize X:a[k]=p at*
      obtain⟨hce,hcm⟩:p.except.length<=Y/\Y<=9223372036854775807:=by{obtain⟨_,_,q1,q2,q3,_⟩:=Sa.shape he;cases q1;exact⟨q2,q3⟩}
      have KO:=la hr;have HPK:=la X;have HE:=la he;clear hr hf he hz X;go_wp2_with (first|((with_reducible show wpList _ _ _ (⟨_,Op.load 38 (.tmp 43),_,_,_,_⟩::_) _ _);refine Lc rfl (.tmp 43) rfl rfl p ak ck ae Y KO.o Tryz.underlying38 rfl Pv.Dg ?_)|((with_reducible show wpList _ _ _ (⟨_,Op.store 38 (.tmp 8) (.tmp 44),_,_,_,_⟩::_) _ _);refine Vc rfl (.tmp 8) (.tmp 44) rfl p ak ck ae Y rfl rfl ?Sj Pv.Dg ?_;(case Sj=>rfl);intro W1 n Un s Mu;have zP:=s 10 _ rfl;have fP:=la s;clear s));have M:=qb.below f.o n;have s:=c.o.kept (jg n) (λb e=>by cases e);have KT:=la (y.o.below n y.o.lt);have O2:=la (HE.o.below (n.mono ja));have abC:=la (g.o.trans (n.mono ja));have abD:=la s;have qS:=la M;have HX:=c;clear M s y f c g b0 HE n Mu;obtain⟨wt,rfl⟩:∃wt:Ca,wt=wr:=⟨_,rfl⟩
      go_loopw [48] (λi wr=>∃(j:Nat) (vs:List Ea),j<=p.except.length/\i=pa j/\Hid (Wb Value.string (Value.int .i64) wr z (Fl (a.map Pv.id) a.length))/\Hid (qb wr r 163 #[.slice G d.length I,.slice (fe b off) a.length A,.slice h J E,.map (some z),.slice (Nb m) a.length a.length])/\
       Hid (Hk wr ws.heap.size m ((p.except.take j).foldl (dh (Fl (a.map Pv.id) a.length) k) (Ru (Fl (a.map Pv.id) a.length) (a.map Pv.except) k)) vs)/\Hid (Da (w.heap.size+1) (w.alloc (.cells #[.slice G d.length I,.slice (fe b off) a.length A,.slice h J E] 28)) wr)/\
       Hid (Sc wr B p.except (.slice ae p.except.length Y))/\wt.heap.size<wr.heap.size) (λi _=>p.except.length-(intOf i).toNat)
      case atStart=>exact⟨0,vs,Lb _,rfl,KT,qS,abD,abC,O2,ja⟩
      case round=>
       obtain⟨j,N,hj,rfl,y,f,c,g,hes,U⟩:=hrel;by_cases YI:j<p.except.length
       ·obtain⟨bx,ox,rfl,_,hcx⟩:=Sa.one hes.o j YI
        have AP:Hid (∀at_ rows,(p.except.take (j+1)).foldl (dh at_ k) rows=dh at_ k ((p.except.take j).foldl (dh at_ k) rows) p.except[j]):=by{intro at_ rows;rw[Ta YI,Wg];rfl}
        have C_:((p.except.take j).foldl (dh (Fl (a.map Pv.id) a.length) k) (Ru (Fl (a.map Pv.id) a.length) (a.map Pv.except) k)).length=a.length:=by rw[MB,et,Va]
        have hRb:∀k',(((p.except.take j).foldl (dh (Fl (a.map Pv.id) a.length) k) (Ru (Fl (a.map Pv.id) a.length) (a.map Pv.except) k)).getD k' []).length<=41000:=λk'=>by{have h1:=By (Fl (a.map Pv.id) a.length) k k' (p.except.take j) (Ru (Fl (a.map Pv.id) a.length) (a.map Pv.except) k);have h2:=wP (Fl (a.map Pv.id) a.length) (a.map Pv.except) (λl Q=>by obtain⟨q,hq,rfl⟩:=List.mem_map.1 Q;exact hex q hq) k' k;have h3:=List.length_take_le j p.except;omega}
        have hst:=AP.o (Fl (a.map Pv.id) a.length) (Ru (Fl (a.map Pv.id) a.length) (a.map Pv.except) k);generalize(p.except.take j).foldl (dh (Fl (a.map Pv.id) a.length) k) (Ru (Fl (a.map Pv.id) a.length) (a.map Pv.except) k)=R at*
        generalize p.except[j]=id at*
        have m3:wr.cell? (Ja r 3)=some (.map (some z)):=f.o.cell 3;have m4:wr.cell? (Ja r 4)=some (.slice (Nb m) a.length a.length):=f.o.cell 4;have Yr:=af GD.key Tryz.underlying87 Ip y.o id;have D:=la hst;have HRB:=la hRb;have UY:=la C_;clear hst hRb C_ AP;cases Q:(Fl (a.map Pv.id) a.length).lookup id with
        | none=>{rw[Q]at Yr;have WW:=la (show dh (Fl (a.map Pv.id) a.length) k R id=R by unfold dh;rw[Q]);rw[WW.o]at D;have K:=y;clear Q y;go_wp2;go_roundw;(case rel=>exact⟨j+1,N,ja,by go_num,K,f,by rw[D.o];exact c,g,hes,U⟩);case measure=>simp[intOf];omega}
        | some x=>
         obtain⟨x0,xk,xe⟩:=Gp _ _ id x Q;obtain⟨k',rfl⟩:∃k':Nat,x=k':=⟨x.toNat,ja⟩;rw[Fc]at xk;rw[Q]at Yr;have XW:dh (Fl (a.map Pv.id) a.length) k R id=Ay R k' k:=by unfold dh;rw[Q];simp
         rw[XW]at D;have P:k'<R.length:=by rw[UY.o];exact xk
         have S:=c.o.own k' P
         have m5:wr.cell? (Ja m k')=some (N.getD k' undef):=by{rw[c.o.Pd.cell,Hc,zc,Xa (by rw[c.o.len];exact P)];rfl}
         have HC:=la (Vo _ (k:Int) _ wr wr.heap.size (Sm S (by have:=c.o.lt;omega)));have hcc:=kt (R.getD k' []) k;rw[hcc]at HC;have hlen:=HRB.o k';have K:=y;have O:=la S;generalize hvv:N.getD k' undef=vv at*
         generalize Z:R.getD k' []=row at*
         have F:=la Z;have HVV:=la hvv;have k'0:(0:Int)<=(k':Int):=Xb _;have k'1:(k':Int)<(a.length:Int):=by omega
         clear Q y S hcc XW hvv xe Z;cases L:row.contains k with
         | true=>{have MT:=la (show Ay R k' k=R by unfold Ay;rw[F.o,Ga L]);rw[MT.o]at D;rw[L]at HC;clear L;go_wp2_with (go_at_call 97;refine HC.o.mono ?_;rintro e w3 ⟨rfl,rfl⟩);go_roundw;(case rel=>exact⟨j+1,N,ja,by go_num,K,f,by rw[D.o];exact c,g,hes,U⟩);case measure=>simp[intOf];omega}
         | false=>
          rw[L]at HC;obtain⟨i0,Kw,yx,XY,BA⟩:=info_parts CD;have CA:m<wr.heap.size:=c.o.Pd.lt;have hnl:r<wr.heap.size:=f.o.lt;have MT:=la (show Ay R k' k=R.set k' (row++[k]) by unfold Ay;rw[F.o,if_neg (by rw[L];simp)]);rw[MT.o]at D;clear L;go_wp2_with (go_at_call 97;refine HC.o.mono ?_;rintro e w3 ⟨rfl,rfl⟩)
          go_region_law (refine step_append_lies _ Ra _ _ _ Ra ws.heap.size 3 i0 _ 1 8 Tryz.underlying26 Kw yx XY BA rfl ja vv row.length _ Ra ((O.o.alloc _).drew) (Ya wr.heap.size) 1 1 [pa k] Ra Ra (World.news_of_block (cs:=#[pa k]) (t:=3) (fr:=(0,0)) (heap_alloc_new wr _)) (by simp[Value.oneCell']) ja (by unfold maxLen;omega) ja (by simp;omega) (wr.heap.size+1) Aa ?_;intro gg cap w1 T u lF S5;have YY:qb w1 m 26 N.toArray:=(u.block m (by have:=c.o.Pd.lt;show m<(wr.alloc _).heap.size;rw[Ia];omega) (ED O.o c.o.lt)).trans (qb.alloc c.o.Pd _);have hnk:qb w1 r 163 #[.slice G d.length I,.slice (fe b off) a.length A,.slice h J E,.map (some z),.slice (Nb m) a.length a.length]:=(u.block r (by show r<(wr.alloc _).heap.size;rw[Ia];omega) (ED O.o ja)).trans (qb.alloc f.o _);have s5:w1.cell? (Ja m k')=some vv:=(QY YY c.o.Pd k').trans m5;have z5:=YY.frozen k';have s4:w1.cell? (Ja r 4)=some (.slice (Nb m) a.length a.length):=hnk.cell 4)
          all_goals
           obtain⟨g1,g2,g3⟩:=c.o.append P HVV.o ja u (by rw[F.o];exact T) lF;rw[F.o]at g1 g2 g3;have tS:=g3.size;have D_:=la g1;have DA:=la g2;have ZY:=la g3;clear g1 g2 g3 u T lF YY hnk s5 z5 s4;go_wp2;go_roundw
           case rel=>exact⟨j+1,_,ja,by go_num,Wb.of_block K.o (DA.o _ ja n1),(DA.o _ ja (Ne.symm n3)).trans f.o,by rw[D.o];exact D_.o,g.o.trans (ZY.o.mono ja),hes.o.below (ZY.o.mono ja),Zb U tS⟩
           case measure=>simp[intOf];omega
       {(have C:j=p.except.length:=ja);subst C;have AO:Hid (Ru (Fl (a.map Pv.id) a.length) (a.map Pv.except) (k+1)=(p.except.take p.except.length).foldl (dh (Fl (a.map Pv.id) a.length) k) (Ru (Fl (a.map Pv.id) a.length) (a.map Pv.except) k)):=by{show _=_;rw[Ru,hgk.o,Ub]};have K:=y;clear y hj YI;go_wp2;go_roundw;(case rel=>exact⟨k+1,N,ja,by go_num,K,f,by rw[AO.o];exact c,g,ja⟩);case measure=>simp[intOf];omega}
     {(have C:k=a.length:=ja);subst C;have m3:wr.cell? (Ja r 3)=some (.map (some z)):=f.o.cell 3;have c1r:=(g.o.cell (p:=Ja w.heap.size 1) Aa).trans (show _=some (Value.slice H a.length A)from qb.cell Ou.o 1);have BP:=run_len_map (W:=wr.drew) y.o Tryz.underlying87 3;have HM:=y;clear y hlt hk;go_wp2;go_region;go_wp2;go_ret2;(have NT:(Ru (Fl (a.map Pv.id) a.length) (a.map Pv.except) a.length).length=a.length:=by rw[et,Va]);refine⟨r,_,_,_,_,rfl,rfl,by rw[Rc,Pc,decide_eq_true_iff];omega,⟨z,m,?_,?_,⟨_,vs,c.o.kept (jg (za _ _).drew) (λb e=>by cases e)⟩,ja,ja,ja⟩,b0.o.drew⟩;{rw[NT];exact f.o};{rw[NA.o];exact HM.o}}
end Go.Proofs.YtdipkbobalnilaaGreatDoor
