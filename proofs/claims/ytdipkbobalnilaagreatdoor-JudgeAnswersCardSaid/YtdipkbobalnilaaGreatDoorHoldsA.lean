/- The walks of formula.Check and formula.Holds. A bound on the number of nodes. -/
import Derived.Test.YtdipkbobalnilaaGreatDoorAl
import Derived.Test.YtdipkbobalnilaaGreatDoorCheckA
import Derived.Deep.RegionHeld3
set_option maxRecDepth 100000
set_option maxHeartbeats 4000000
namespace Go.Proofs.YtdipkbobalnilaaGreatDoor
open Tryz
open Go.RowKit
variable{j:Nat}{Z:Int}{D:List Fa}{C:List Int}{F:Fo}{A:Option Addr}
theorem ij{a:Type}(p:a->Bool):∀(l:List a) (k:Nat),decide ((0:Int)<=idxFrom p l (k:Nat))=l.any p
 | [],k=>by simp[idxFrom]
 | x::l,k=>by{rw[idxFrom,List.any_cons];cases h:p x with| true=>simp| false=>{rw[if_neg Aa,Bool.false_or, <-ij p l (k+1)];simp}}
theorem uE(l:List Na)(s:Na)(v:Ea)(w:Ca)(B:Nat)(f:Sc w B l v):
  Db 57 #[v,.string s] w λe p=>e=.returned (pa (idxFrom (λx=>Lh s x) l 0))/\w=p:=by
 obtain⟨q,cap,rfl,r,n,_⟩:=Sa.shape f;unfold maxLen at n;have m:=la f;have g:Hid (idxFrom (λx=>Lh s x) l 0=idxFrom (λx=>Lh s x) (l.drop 0) (0:Nat)):=rfl;generalize idxFrom (λx=>Lh s x) l 0=R at*
 clear f;go_enter func57,ntmps57;go_wp2
 go_loop [8] (λi=>∃k:Nat,k<=l.length/\i=pa k/\Hid (R=idxFrom (λx=>Lh s x) (l.drop k) k)) (λi=>l.length-(intOf i).toNat)
 case atStart=>exact⟨0,ja,rfl,g⟩
 case round=>
  obtain⟨k,z,rfl,a⟩:=hrel;by_cases hlt:k<l.length
  {obtain⟨b,off,rfl,t,u⟩:=Sa.one m.o k hlt;have d:=a.o;rw[ph _ l k hlt]at d;generalize l[k]=y at*;cases j:(s.toList==y.toList)with| true=>{have c:=la (show(k:Int)=R by rw[d];unfold Lh;rw[j];rfl);clear d a g;go_wp2;go_ret;exact⟨vf c.o,rfl⟩}| false=>{have c:=la (show R=idxFrom (λx=>Lh s x) (l.drop (k+1)) ((k+1:Nat):Int) by rw[d];unfold Lh;rw[j];rfl);go_wp2;go_round;(case rel=>exact⟨_,ja,by go_num,c⟩);case measure=>simp[intOf];omega}}
  ·have c:=la (show(-1:Int)=R by
    have h:=a.o
    rw[Bb ja]at h
    exact h.symm)
   go_wp2;go_ret;exact⟨vf c.o,rfl⟩
theorem yg(l:List Na)(s:Na)(v:Ea)(w:Ca)(B:Nat)(a:Sc w B l v):
  Db 29 #[v,.string s] w λe c=>e=.returned (.bool (l.any λx=>Lh s x))/\w=c:=by
 have C:=la (uE l s v w B a);have b:=la (ij (λx=>Lh s x) l 0);obtain⟨d,cap,rfl,f,g,_⟩:=Sa.shape a;clear a
 change Hid (decide (0<=idxFrom (λx=>Lh s x) l 0)=_)at b
 generalize idxFrom (λx=>Lh s x) l 0=R at*
 go_enter func29,ntmps29;go_wp2_with (go_at_call 57;refine C.o.mono ?_;rintro e c ⟨rfl,rfl⟩);go_ret;exact⟨Cb b.o,rfl⟩
abbrev qM{a:Type}(g:Nat)(c:Array Ea)(val:Ca->a->Ea->Prop)(p:a->Bool)(l:List a)(J:Ca->Prop):Prop:=
 ∀(W:Ca) (x:a) (v:Ea),x∈l->J W->val W x v->Db g (#[v]++c) W λe b=>e=.returned (.bool (p x))/\J b
theorem YA(a:List Fo)(g:Nat)(E:Array Ea)(p:Fo->Bool)(J:Ca->Prop)(B:Nat)(A:Option Addr)(cap:Nat)(w:Ca)(I:∀args w,(callFunc g args).run prog w=.ok (.enter g args) w)
  (l:cap<=maxLen) (hlen:a.length<=cap) (d:∀W,J W->a≠[]->∃b off,A=some ⟨b,off,none⟩/\Fo.Vk W B a b off) (D:qM g E (λW x v=>Fo.In W B x v) p a J) (j:J w):
  Db 158 #[.slice A a.length cap,.func (.func g) #[] E] w λe z=>e=.returned (pa (idxFrom p a 0))/\J z:=by
 unfold maxLen at l;have u:Hid (idxFrom p a 0=idxFrom p (a.drop 0) (0:Nat)):=rfl;have F:=la D;have G:=la d;have t:=la j;generalize idxFrom p a 0=R at*
 clear D d j;go_enter func158,ntmps158;go_wp2
 go_loopw [8] (λi wr=>∃k:Nat,k<=a.length/\i=pa k/\Hid (R=idxFrom p (a.drop k) k)/\Hid (J wr)) (λi _=>a.length-(intOf i).toNat)
 case atStart=>exact⟨0,ja,rfl,u,t⟩
 case round=>
  obtain⟨k,P,rfl,c,m⟩:=hrel;by_cases hlt:k<a.length
  {obtain⟨b,off,rfl,C⟩:=G.o wr m.o (by intro h;simp[h]at hlt);obtain⟨Q,S,K,L,M,N,O,gk⟩:=Fo.Vk.get a off k hlt C;have n:=c.o;rw[ph _ a k hlt]at n;have q:=la (F.o wr _ _ (Oa _) m.o gk);generalize a[k]=y at*;have H:=m;clear gk C m;cases r:p y with| true=>{have f:=la (show(k:Int)=R by rw[n,r];rfl);rw[r]at q;clear n c u;go_wp2_with (go_at_fn g;refine q.o.mono ?_;rintro e z ⟨rfl,hj'⟩);go_ret;exact⟨vf f.o,hj'⟩}| false=>{have f:=la (show R=idxFrom p (a.drop (k+1)) ((k+1:Nat):Int) by rw[n,r];rfl);rw[r]at q;clear n c u;go_wp2_with (go_at_fn g;refine q.o.mono ?_;rintro e z ⟨rfl,hj'⟩);have s:=la hj';go_roundw;(case rel=>exact⟨_,ja,by go_num,f,s⟩);case measure=>simp[intOf];omega}}
  ·have f:=la (show(-1:Int)=R by
    have j:=c.o
    rw[Bb ja]at j
    exact j.symm)
   go_wp2;go_ret;exact⟨vf f.o,m.o⟩
theorem mq(a:List Fo)(g:Nat)(h:Array Ea)(p:Fo->Bool)(J:Ca->Prop)(B:Nat)(f:Option Addr)(cap:Nat)(w:Ca)(k:∀args w,(callFunc g args).run prog w=.ok (.enter g args) w)
  (c:cap<=maxLen) (hlen:a.length<=cap) (d:∀W,J W->a≠[]->∃b off,f=some ⟨b,off,none⟩/\Fo.Vk W B a b off) (n:qM g h (λW x v=>Fo.In W B x v) p a J) (l:J w):
  Db 126 #[.slice f a.length cap,.func (.func g) #[] h] w λe j=>e=.returned (.bool (a.any p))/\J j:=by
 have C:=la (YA a g h p J B f cap w k c hlen d n l);have i:=la (ij p a 0)
 change Hid (decide (0<=idxFrom p a 0)=_)at i
 generalize idxFrom p a 0=R at*
 go_enter func126,ntmps126;go_wp2_with (go_at_call 158;refine C.o.mono ?_;rintro e j ⟨rfl,m⟩);go_ret;exact⟨Cb i.o,m⟩
mutual
def Ao(d:List Fa)(c:List Int)(b:List Na):Fo->Bool
 | .mk a f g n e=>
  if a=3 then Ol (c.getD (ki d f).toNat 0) g n
  else if a=4 then b.any λx=>Lh f x
  else if a=5 then !((vE d c b e).headD false)
  else if a=6 then(vE d c b e).all id
  else if a=7 then(vE d c b e).any id
  else a==1
def vE(d:List Fa)(c:List Int)(a:List Na):List Fo->List Bool
 | []=>[]
 | k::ks=>Ao d c a k::vE d c a ks
end
theorem fy(d:List Fa)(c:List Int)(b:List Na):∀a,vE d c b a=a.map (Ao d c b)
 | []=>rfl
 | k::a=>by rw[vE,Eb,fy]
def Fm(f:Fo)(d:List Fa)(c:List Int)(a:List Na):Bool:=decide (se f d (λ_=>true)=0)&& Vh d c&& Ao d c a f
def Good(d:List Fa)(f:Fo):Prop:=∀x∈ch f,Jg d (λ_=>true) x=0
theorem Qw(f:Fo):f∈ch f:=by obtain⟨d,b,c,n,a⟩:=f;simp[ch]
theorem Rw(b:List Fo)(k x:Fo)(c:k∈b)(d:x∈ch k):x∈Ig b:=by
 induction b with
 | nil=>cases c
 | cons a b e=>
  grind [Ig]
theorem Good.kid{c n:Int}{b:Na}{a:List Fo}(h:Good D (.mk Z b c n a))(d:F∈a):Good D F:=
 λx e=>h x (by grind [ch,Rw])
theorem ZA{d:List Fa}{f:Fo}(h:se f d (λ_=>true)=0):Good d f:=by
 unfold se at h
 split at h
 {cases h}
 ·have:∀l,bf d (λ_=>true) l=0->∀x∈l,Jg d (λ_=>true) x=0:=by
   intro l
   induction l with
   | nil=>grind
   | cons a l c=>
    grind [bf]
  exact λx b=>this _ h x b
theorem As{a:Type}(p:a->Bool):∀(l:List a) (k:Int),idxFrom p l k= -1\/(k<=idxFrom p l k/\idxFrom p l k<k+l.length)
 | [],k=>.inl rfl
 | x::l,k=>by{rw[idxFrom];(split);{right;simp;omega};{(rcases As p l (k+1)with h|h);{exact .inl h};{right;simp;omega}}}
theorem wE{c n:Int}{b:Na}{a:List Fo}(h:Th (.mk Z b c n a)=true):
  (Z=1\/Z=2)\/(Z=3/\1<=c/\c<=6)\/Z=4\/(Z=5/\a.length=1)\/Z=6\/Z=7:=by
 have d:Th _=if YD (.mk Z b c n a)=true then false
  else if Z=1\/Z=2 then decide (a.length=0)
  else if Z=3 then((decide (a.length=0)&& Oe b)&& decide (1<=c))&& decide (c<=6)
  else if Z=4 then decide (a.length=0)&& Oe b
  else if Z=5 then decide (a.length=1)
  else if Z=6\/Z=7 then decide (2<=a.length)
  else false:=rfl
 grind
theorem mK{c n:Int}{a:Na}{d:List Fo}(h:Jg D (λ_=>true) (.mk Z a c n d)=0):
  (Z=1\/Z=2)\/(Z=3/\1<=c/\c<=6/\∃k:Nat,ki D a=k/\k<D.length)\/Z=4\/(Z=5/\∃k,d=[k])\/Z=6\/Z=7:=by
 have g:Jg D (λ_=>true) _=if Th (.mk Z a c n d)=false then 1 else if Z=3/\(n<0\/1000000<n)then 10 else if(Z=3/\ki D a<0)\/(Z=4/\true=false)then 7 else 0:=rfl;rw[g]at h;clear g;by_cases j:Th (.mk Z a c n d)=false
 ·grind
 rw[if_neg j]at h;by_cases q:Z=3/\(n<0\/1000000<n)
 {omega}
 rw[if_neg q]at h;by_cases p:Z=3/\ki D a<0
 {omega}
 rcases wE (by simpa using j)with b|⟨b,i,l⟩|b|⟨b,i⟩|b|b
 {exact .inl b}
 {(have m:¬ki D a<0:=λe=>p ⟨b,e⟩);refine .inr (.inl ⟨b,i,l,(ki D a).toNat,ja,?_⟩);(rcases As (λf=>Lh f.name a) D 0 with o|o);{exact absurd (show ki D a<0 by unfold ki;omega) m};{unfold ki at*;omega}}
 all_goals grind [List.length_eq_one_iff]
structure tR (d : List Fa) (c : List Int) (ts : List Na) (H cb db tb hb : Nat) (w : Ca) : Prop where
 size:H<=w.heap.size
 c:cb<H/\∃ao cap,w.cell? (Ya cb)=some (.slice ao c.length cap)/\IntsIn w H c (.slice ao c.length cap)
 d:db<H/\∃ao cap,w.cell? (Ya db)=some (.slice ao d.length cap)/\jf w H d (.agg #[.slice ao d.length cap])
 t:tb<H/\∃ao cap,w.cell? (Ya tb)=some (.slice ao ts.length cap)/\Sc w H ts (.slice ao ts.length cap)
 h:hb<H/\w.cell? (Ya hb)=some (.func (.func 123) #[] #[Ma cb,Ma db,Ma tb,Ma hb])
theorem tR.below{d:List Fa}{c:List Int}{n:List Na}{H f g m l:Nat}{w o:Ca}(h:tR d c n H f g m l w)(a:Da H w o):tR d c n H f g m l o:=by
 obtain⟨u,⟨i,p,s,v,x⟩,⟨j,q,t,y,z⟩,⟨k,r,c3,A,B⟩,⟨b,e⟩⟩:=h
 exact⟨ub u a.size,⟨i,p,s,(a.cell i).trans v,x.below a⟩,⟨j,q,t,(a.cell j).trans y,z.below a⟩,
  ⟨k,r,c3,(a.cell k).trans A,B.below a⟩,⟨b,(a.cell b).trans e⟩⟩
theorem OX{W1 a b:Ca}{n:Nat}(h:Hid (Da n W1 a))(hs:n<=a.heap.size)(c:Da a.heap.size a b):Hid (Da n W1 b):=h.o.trans (c.mono hs)
theorem nK(d:List Fa)(c:List Int)(s:List Na)(hcd:c.length=d.length)(H cb db tb C:Nat)(N:Nat):∀(f:Fo) (v:Ea) (w:Ca),f.size<=N->Good d f->tR d c s H cb db tb C w->f.In w H v->
    Db 123 #[v,Ma cb,Ma db,Ma tb,Ma C] w λe m=>e=.returned (.bool (Ao d c s f))/\Da w.heap.size w m:=by
  induction N with
  | zero=>intro f _ _ h;have:=f.size_pos;omega
  | succ N ih=>
  intro f v w hN hg L hf;have IH:=la ih;clear ih;obtain⟨G,g,l,n,p⟩:=f;have HF:=la hf;obtain⟨y,cap,rfl,_,_,_,hnm,h5,h6,h7⟩:=hf;have H7:=la h7;have HG:=la hg;have Y:=la L;have K:=mK (hg _ (Qw _))
  have D:Hid (Ao d c s (.mk G g l n p)=if G=3 then Ol (c.getD (ki d g).toNat 0) l n else if G=4 then s.any λx=>Lh g x else if G=5 then !((vE d c s p).headD false)else if G=6 then(vE d c s p).all id
    else if G=7 then(vE d c s p).any id else G==1):=by show _=_;rw[Ao]
  generalize Ao d c s _=R at*
  have J:Da _ w (w.alloc (.cells #[pa G,.string g,pa l,pa n,.slice y p.length cap] 32)):=(za _ _).alloc (wa _) _;have he1:=L.below (J.mono L.size);have j:=la J;have O2:=la he1;have hsz:=L.size;obtain⟨_,⟨l1,a1,p1,q1,r1⟩,⟨l2,a2,p2,q2,r2⟩,⟨l3,a3,p3,q3,r3⟩,⟨l4,q4⟩⟩:=L;have R1:=la r1;have R2:=la r2;have R3:=la r3;clear h7 hg J he1 r1 r2 r3;rcases K with h1|⟨rfl,g1,g2,k,hk,hkd⟩|rfl|⟨rfl,k,rfl⟩|rfl|rfl
  . rcases h1 with rfl|rfl
    all_goals
      have u:=la D.o;simp at u;go_enter func123,ntmps123;go_wp2;go_ret;exact⟨Cb (by rw[u.o]),j.o⟩
  . have MQ:k<c.length:=by omega
    obtain⟨b,off,rfl,t,hcc⟩:=Sa.one R1.o k MQ
    have u:Hid (R=Ol c[k] l n):=by{have h:=D.o;rw[Ga rfl,hk,Fc,zc,Xa MQ]at h;exact h}
    have Z:Hid (∀W,Da (w.heap.size+1) (w.alloc (.cells #[pa 3,.string g,pa l,pa n,.slice y p.length cap] 32)) W->Db 125 #[.agg #[.slice a2 d.length p2],.string g] W λe m=>e=.returned (pa k)/\Da W.heap.size W m):=by{intro W q;have I:=q.size;simp at I;have h:=JB d g _ W H ja (R2.o.below ((j.o.mono hsz).trans (q.mono ja)));rw[hk]at h;exact h}
    have kF:0<=(k:Int):=Xb _;generalize c[k]=ck at*
    clear D hk;go_enter func123,ntmps123;go_wp2
    have B:Hid ((w.alloc _).cell? _=some _/\(w.alloc _).cell? _=some _/\(w.alloc (.cells #[pa 3,.string g,pa l,pa n,.slice y p.length cap] 32)).cell? _=some (.string g)/\
       (w.alloc (.cells #[pa 3,.string g,.int _ l,pa n,.slice y p.length cap] 32)).cell? _=some (pa l)/\(w.alloc (.cells #[pa 3,.string g,pa l,.int _ n,.slice y p.length cap] 32)).cell? _=some (pa n)/\(w.alloc _).cell? _=some _):=
      ⟨(j.o.cell (by simp;omega)).trans q1,(j.o.cell (by simp;omega)).trans q2,qb.cell (qb.new w 32 _) 1,qb.cell (qb.new w 32 _) 2,qb.cell (qb.new w 32 _) 3,(j.o.cell (by simp;omega)).trans hcc⟩
    have DO:Hid (Da (w.heap.size+1) _ (w.alloc (.cells #[pa 3,.string g,pa l,pa n,.slice y p.length cap] 32)).drew):=(za _ _).drew
    go_region_held3 (λm=>m.cell? (Ya cb)=some (.slice (fe b off) c.length p1)/\m.cell? (Ya db)=some (.slice a2 d.length p2)/\m.cell? (Ja w.heap.size 1)=some (.string g)/\
       m.cell? (Ja w.heap.size 2)=some (pa l)/\m.cell? (Ja w.heap.size 3)=some (pa n)/\m.cell? (Ja b (off+k))=some (pa ck)/\Hid (Da (w.heap.size+1) (w.alloc (.cells #[pa 3,.string g,pa l,pa n,.slice y p.length cap] 32)) m)/\w.heap.size+1<=m.heap.size)
      (first
        | (go_split_ands
           have a:=OX (n:=w.heap.size+1) (W1:=w.alloc (.cells #[pa 3,.string g,pa l,pa n,.slice y p.length cap] 32)) La La r
           have A:=a.o.size
           simp only[Ia]at A
           obtain⟨Q,S,T,O,U,y6⟩:=B.o
           exact⟨(a.o.cell (by simp;omega)).trans Q,(a.o.cell (by simp;omega)).trans S,(a.o.cell Aa).trans T,(a.o.cell Aa).trans O,(a.o.cell Aa).trans U,(a.o.cell (by simp;omega)).trans y6,a,A⟩)
        | go_keep)
      (first
        | (go_at_call 125;refine(Z.o _ ?_).mono ?_;exact(by assumption:Hid (Da (w.heap.size+1) (w.alloc (.cells #[pa 3,.string g,pa l,pa n,.slice y p.length cap] 32)) _)).o;rintro e M ⟨rfl,r⟩)
        | (go_at_call 124;refine(aH _ _ _ _ g1 g2).mono ?_;rintro e w5 ⟨rfl,rfl⟩))
    go_wp2;go_ret;go_split_ands;exact⟨Cb u.o.symm,j.o.trans ((by assumption:Hid (Da _ _ M)).o.mono ja)⟩
  . have u:Hid (R=s.any λx=>Lh g x):=by
      have h:=D.o;exact h
    have X:=la (λW (q:Da _ w W)=>yg s g _ W H (R3.o.below (q.mono hsz)));generalize s.any (λx=>Lh g x)=RR at*
    clear D;go_enter func123,ntmps123;have I3:tb<w.heap.size:=by omega
    go_wp2_with (go_at_call 29;refine(X.o _ j.o).mono ?_;rintro e M ⟨rfl,rfl⟩);go_ret;exact⟨Cb u.o.symm,j.o⟩
  . have u:Hid (R= !Ao d c s k):=by
      have h:=D.o;exact h
    obtain⟨b,off,rfl,t,P⟩:=H7.o Aa;obtain⟨ka,kc,Q,S,T,O,U,gk⟩:=Fo.Vk.get [k] off 0 Aa (Fo.Vk.below (j.o.mono hsz) t _ _ P);simp only[Nat.zero_mul,Qg,zb]at Q S T O U gk;have z:k.size<=N:=by rw[Fo.size,Fo.Cd,Fo.Cd]at hN;omega
    have Z:Hid (∀W,Da (w.heap.size+1) (w.alloc (.cells #[.int _ 5,.string g,.int _ l,.int _ n,.slice _ 1 cap] 32)) W->Calls _ 123 _ W λe m=>e=.returned _/\Da _ W m):=
      λW q=>IH.o k _ W z (HG.o.kid Aa) (O2.o.below (q.mono ja)) (Fo.In.below (q.mono ja) _ _ gk)
    generalize Ao d c s k=vk at*
    have B:Hid ((w.alloc (.cells #[.int _ 5,.string g,.int _ l,.int _ n,.slice _ 1 cap] 32)).cell? _=some _/\
       (w.alloc (.cells #[pa 5,.string g,pa l,pa n,.slice _ 1 cap] 32)).cell? _=some (.slice (fe b off) 1 cap)/\(w.alloc (.cells #[.int _ 5,.string g,.int _ l,.int _ n,.slice _ 1 cap] 32)).cell? _=some _/\(w.alloc (.cells #[.int _ 5,.string g,.int _ l,.int _ n,.slice _ 1 cap] 32)).cell? _=some _/\
       (w.alloc (.cells #[.int _ 5,.string g,.int _ l,.int _ n,.slice _ 1 cap] 32)).cell? _=some _/\(w.alloc (.cells #[.int _ 5,.string g,.int _ l,.int _ n,.slice _ 1 cap] 32)).cell? _=some _/\(w.alloc (.cells #[.int _ 5,.string g,.int _ l,.int _ n,.slice _ 1 cap] 32)).cell? _=some _):=
      ⟨(j.o.cell (by simp;omega)).trans q4,qb.cell (qb.new w 32 _) 4,Q,S,T,O,U⟩
    have DO:Hid (Da (w.heap.size+1) _ (w.alloc (.cells #[pa 5,.string g,pa l,pa n,.slice (fe b off) 1 cap] 32)).drew):=(za _ _).drew;clear D P gk;go_enter func123,ntmps123;go_wp2
    go_region_held3 (λm=>m.cell? (Ya C)=some (.func (.func 123) #[] #[Ma cb,Ma db,Ma tb,Ma C])/\
       m.cell? (Ja w.heap.size 4)=some (.slice (fe b off) 1 cap)/\m.cell? (Ja b off)=some (pa k.op)/\m.cell? (Ja b (off+1))=some (.string k.name)/\
       m.cell? (Ja b (off+2))=some (pa k.cmp)/\m.cell? (Ja b (off+3))=some (pa k.n)/\m.cell? (Ja b (off+4))=some (.slice ka k.kids.length kc)/\
       Hid (Da (w.heap.size+1) (w.alloc (.cells #[pa 5,.string g,pa l,pa n,.slice (fe b off) 1 cap] 32)) m)/\w.heap.size+1<=m.heap.size)
      (first
        | (go_split_ands
           have a:=OX (n:=w.heap.size+1) (W1:=w.alloc (.cells #[pa 5,.string g,pa l,pa n,.slice (fe b off) 1 cap] 32)) La La r
           have A:=a.o.size
           simp only[Ia]at A
           obtain⟨Q,S,T,O,U,y6,y7⟩:=B.o
           exact⟨(a.o.cell (by simp;omega)).trans Q,(a.o.cell Aa).trans S,(a.o.cell (by simp;omega)).trans T,(a.o.cell (by simp;omega)).trans O,(a.o.cell (by simp;omega)).trans U,(a.o.cell (by simp;omega)).trans y6,(a.o.cell (by simp;omega)).trans y7,a,A⟩)
        | exact⟨B.o.1,B.o.2.1,B.o.2.2.1,B.o.2.2.2.1,B.o.2.2.2.2.1,B.o.2.2.2.2.2.1,B.o.2.2.2.2.2.2,DO,Aa⟩
        | go_keep)
      ((go_at_call 123;refine(Z.o _ ?_).mono ?_;exact(by assumption:Hid _).o;rintro e M ⟨rfl,r⟩))
    go_wp2;go_ret;go_split_ands;exact⟨Cb u.o.symm,j.o.trans ((by assumption:Hid (Da _ _ M)).o.mono ja)⟩
  . have u:Hid (R= !(p.any λk=> !Ao d c s k)):=by
      have h:=D.o;rw[if_neg Ba,if_neg Ba,if_neg Ba,Ga rfl,fy,List.all_map]at h;rw[h,List.all_eq_not_any_not];rfl
    have HP:qM 127 #[Ma C] (λW x v=>Fo.In W H x v) (λk=> !Ao d c s k) p (λW=>Da w.heap.size w W):=by{intro W x v hx q F;have z:x.size<=N:=by{obtain⟨i,hi,rfl⟩:=Zc hx;have:=Fo.Eh p i hi;rw[Fo.size]at hN;omega};have I:=q.size;have E5:=F.shape;obtain⟨xa,xc,rfl⟩:=E5;have E:Da _ W (W.alloc (.cells #[pa x.op,.string x.name,pa x.cmp,pa x.n,.slice xa x.kids.length xc] 32)):=(za _ _).alloc (wa _) _;have hI:=IH.o x _ _ z (HG.o.kid hx) (Y.o.below ((q.mono hsz).trans (E.mono ja))) (Fo.In.below (E.mono ja) _ _ F);have O:=(q.cell (by simp;omega)).trans q4;(have U2:C<W.heap.size:=ja);have Z:=la hI;have V:=la E;clear hI E;show Calls _ _ #[_,_] _ _;go_enter func127,ntmps127;go_wp2_with (go_at_call 123;refine Z.o.mono ?_;rintro e M ⟨rfl,r⟩);go_ret;exact⟨rfl,q.trans ((V.o.trans (r.mono V.o.size)).mono I)⟩}
    have X:=la (mq p 127 _ _ (λW=>Da _ w W) H y cap _ (enters_of func127 Ha rfl) h6 h5
      (λW q hne=>by obtain⟨b,off,ha,t,P⟩:=H7.o hne;exact⟨b,off,ha,Fo.Vk.below (q.mono hsz) t _ _ P⟩) HP j.o)
    generalize(p.any λk=> !Ao d c s k)=RR at*
    go_enter func123,ntmps123;go_wp2_with (go_at_call 126;refine X.o.mono ?_;rintro e M ⟨rfl,r⟩);go_ret;exact⟨Cb u.o.symm,r⟩
  . have u:Hid (R=p.any λk=>Ao d c s k):=by
      have h:=D.o;rw[if_neg Ba,if_neg Ba,if_neg Ba,if_neg Ba,Ga rfl,fy,List.any_map]at h;exact h
    have HP:qM 123 #[Ma cb,Ma db,Ma tb,Ma C] (λW x v=>Fo.In W H x v) (λk=>Ao d c s k) p (λW=>Da w.heap.size w W):=by{intro W x v hx q F;have z:x.size<=N:=by{obtain⟨i,hi,rfl⟩:=Zc hx;have:=Fo.Eh p i hi;rw[Fo.size]at hN;omega};exact(IH.o x v W z (HG.o.kid hx) (Y.o.below (q.mono hsz)) F).mono λe m ⟨L,C⟩=>⟨L,q.trans (C.mono q.size)⟩}
    have X:=la (mq p 123 _ _ (λW=>Da _ w W) H y cap _ (enters_of func123 Ha rfl) h6 h5
      (λW q hne=>by obtain⟨b,off,ha,t,P⟩:=H7.o hne;exact⟨b,off,ha,Fo.Vk.below (q.mono hsz) t _ _ P⟩) HP j.o)
    generalize(p.any λk=>Ao d c s k)=RR at*
    have U2:C<w.heap.size:=by omega
    go_enter func123,ntmps123;go_wp2_with (go_at_call 126;refine X.o.mono ?_;rintro e M ⟨rfl,r⟩);go_ret;exact⟨Cb u.o.symm,r⟩
theorem Xr(f:Fo)(d:List Fa)(a:List Na)(v u t:Ea)(w:Ca)(B:Nat)(hs:f.size<=1000000)(p:B<=w.heap.size)(A:f.In w B v)(hd:jf w B d u)(C:Sc w B a t):
  Db 78 #[v,u,t] w λe H=>e=.returned (pa (se f d (λs=>a.any λx=>Lh s x)))/\Da w.heap.size w H:=by
 obtain⟨i,cap,rfl⟩:=A.shape;have D:=la hd;obtain⟨L,rfl,r⟩:=hd;obtain⟨g,j,rfl,J,K,_⟩:=Sa.shape r;have F:=la C;obtain⟨at_,c,rfl,N,O,_⟩:=Sa.shape C;have E:=la A;have b:Da _ w (((w.alloc (.cells #[pa f.op,.string f.name,pa f.cmp,pa f.n,.slice i f.kids.length cap] 32)).alloc (.cells #[.slice g d.length j] 24)).alloc (.cells #[.slice at_ a.length c] 33)):=(((za _ _).alloc (wa _) _).alloc Aa _).alloc (by simp;omega) _
 have k:(((w.alloc (.cells #[pa f.op,.string f.name,pa f.cmp,pa f.n,.slice i f.kids.length cap] 32)).alloc (.cells #[.slice g d.length j] 24)).alloc (.cells #[.slice at_ a.length c] 33)).cell? (Ya (w.heap.size+1+1))=some (.slice at_ a.length c):=by{have h:=qb.cell (qb.new ((w.alloc (.cells #[pa f.op,.string f.name,pa f.cmp,pa f.n,.slice i f.kids.length cap] 32)).alloc (.cells #[.slice g d.length j] 24)) 33 #[.slice at_ a.length c]) 0;simpa using h}
 have y:w.heap.size+1+1<(((w.alloc (.cells #[pa f.op,.string f.name,pa f.cmp,pa f.n,.slice i f.kids.length cap] 32)).alloc (.cells #[.slice g d.length j] 24)).alloc (.cells #[.slice at_ a.length c] 33)).heap.size:=by simp
 have G:oP 120 #[Ma (w.heap.size+1+1)] (λs=>a.any λx=>Lh s x) (((w.alloc (.cells #[pa f.op,.string f.name,pa f.cmp,pa f.n,.slice i f.kids.length cap] 32)).alloc (.cells #[.slice g d.length j] 24)).alloc (.cells #[.slice at_ a.length c] 33)):=by{intro W s z hsz;have M:=(z.cell y).trans k;have m:=la (yg a s _ W B (F.o.below ((b.trans (z.mono ja)).mono p)));clear b k;go_enter func120,ntmps120;go_wp2_with (go_at_call 29;refine m.o.mono ?_;rintro e I ⟨rfl,rfl⟩);go_ret;exact⟨rfl,za _ _⟩}
 have m:=la (IB f d 120 _ (λs=>a.any λx=>Lh s x) _ _ _ B hs ja (Fo.In.below (b.mono p) _ _ E.o) (D.o.below (b.mono p)) (enters_of func120 Ha rfl) G);have l:=la b;generalize se f d (λs=>a.any λx=>Lh s x)=R at*
 go_enter func78,ntmps78;go_wp2_with (go_at_call 119;refine m.o.mono ?_;rintro e I ⟨rfl,q⟩);go_ret;exact⟨rfl,l.o.trans (q.mono ja)⟩
theorem jf.mono{w:Ca}{B a:Nat}(c:B<=a){d:List Fa}{v:Ea}(h:jf w B d v):jf w a d v:=by
 obtain⟨u,rfl,b⟩:=h;exact⟨u,rfl,b.mono Jk.mono c⟩
theorem adT{e:List Na}{w c b:Ca}{ac at_:Option Addr}{g f h:Nat}(t:w.heap.size+1+1+1+1<=c.heap.size)(_h:Da w.heap.size w b)(d:Da c.heap.size c b)
  (m:qb c (w.heap.size+1) 24 #[.slice A D.length g]) (n:qb c (w.heap.size+1+1) 29 #[.slice ac C.length f]) (o:qb c (w.heap.size+1+1+1) 33 #[.slice at_ e.length h])
  (hd:jf b j D (.agg #[.slice A D.length g])) (i:IntsIn b j C (.slice ac C.length f)) (k:Sc b j e (.slice at_ e.length h)) (s:j<=w.heap.size):
  tR D C e (b.heap.size+1) (w.heap.size+1+1) (w.heap.size+1) (w.heap.size+1+1+1) b.heap.size
   (b.alloc (.cells #[.func (.func 123) #[] #[.pointer (some ⟨w.heap.size+1+1,0,none⟩),.pointer (some ⟨w.heap.size+1,0,none⟩),Ma (w.heap.size+1+1+1),Ma b.heap.size]] 203)):=by
 have l:=d.size;have a:Da _ b (b.alloc (.cells #[.func (.func 123) #[] #[Ma (w.heap.size+1+1),.pointer (some ⟨w.heap.size+1,0,none⟩),Ma (w.heap.size+1+1+1),Ma b.heap.size]] 203)):=(za _ _).alloc (wa _) _;have p:=qb.below (qb.below m d) a;have q:=qb.below (qb.below n d) a;have r:=qb.below (qb.below o d) a
 refine⟨Aa,⟨ja,ac,f,q.cell 0,Sa.mono (Ad.mono _) ja (i.below (a.mono ja))⟩,⟨ja,A,g,p.cell 0,jf.mono ja (hd.below (a.mono ja))⟩,
  ⟨ja,at_,h,r.cell 0,Sa.mono (Ad.mono _) ja (k.below (a.mono ja))⟩,⟨ja,qb.cell (qb.new b 203 _) 0⟩⟩
theorem vN(w:Ca):oP 122 #[] (λ_=>true) w:=by
 intro W s _ _;go_enter func122,ntmps122;go_wp2;go_ret;exact⟨rfl,za _ _⟩
section
attribute [local go_sem] Wk
theorem SI(f:Fo)(d:List Fa)(c:List Int)(i:List Na)(v u cv t:Ea)(w:Ca)(B:Nat)(hs:f.size<=1000000)(j:B<=w.heap.size)(W:f.In w B v)(hd:jf w B d u)(V:IntsIn w B c cv)(X:Sc w B i t):
  Db 80 #[v,u,cv,t] w λe w'=>e=.returned (.bool (Fm f d c i))/\Da w.heap.size w w':=by
 obtain⟨G,cap,rfl⟩:=W.shape;have L:=la hd;obtain⟨du,rfl,K⟩:=hd;obtain⟨z,C,rfl,d1,d2,_⟩:=Sa.shape K;have HT:=la X;obtain⟨at_,J,rfl,t1,t2,_⟩:=Sa.shape X;have y:=la V;obtain⟨ac,A,rfl,c1,c2,_⟩:=Sa.shape V;have HF:=la W;have p:Da _ w ((((w.alloc (.cells #[pa f.op,.string f.name,pa f.cmp,pa f.n,.slice G f.kids.length cap] 32)).alloc (.cells #[.slice z d.length C] 24)).alloc (.cells #[.slice ac c.length A] 29)).alloc (.cells #[.slice at_ i.length J] 33)):=((((za _ _).alloc (wa _) _).alloc Aa _).alloc (by simp;omega) _).alloc (by simp;omega) _;have Y:=qb.new w 32 #[pa f.op,.string f.name,pa f.cmp,pa f.n,.slice G f.kids.length cap];have Z:=qb.new (w.alloc (.cells #[pa f.op,.string f.name,pa f.cmp,pa f.n,.slice G f.kids.length cap] 32)) 24 #[.slice z d.length C];have k2:=qb.new ((w.alloc (.cells #[pa f.op,.string f.name,pa f.cmp,pa f.n,.slice G f.kids.length cap] 32)).alloc (.cells #[.slice z d.length C] 24)) 29 #[.slice ac c.length A];have k3:=qb.new (((w.alloc (.cells #[pa f.op,.string f.name,pa f.cmp,pa f.n,.slice G f.kids.length cap] 32)).alloc (.cells #[.slice z d.length C] 24)).alloc (.cells #[.slice ac c.length A] 29)) 33 #[.slice at_ i.length J];simp at Y Z k2 k3;have P:Hid (qb ((((w.alloc _).alloc (.cells #[.slice z d.length C] 24)).alloc (.cells #[.slice ac c.length A] 29)).alloc (.cells #[.slice at_ i.length J] 33)) _ 32 _):=qb.alloc (qb.alloc (qb.alloc Y _) _) _;have Q:Hid (qb ((((w.alloc _).alloc _).alloc (.cells #[.slice ac c.length A] 29)).alloc (.cells #[.slice at_ i.length J] 33)) _ 24 _):=qb.alloc (qb.alloc Z _) _;have S:Hid (qb ((((w.alloc _).alloc _).alloc _).alloc (.cells #[.slice at_ i.length J] 33)) _ 29 _):=qb.alloc k2 _;have K3:=la k3;have M:=la (IB f d 122 #[] (λ_=>true) _ _ _ B hs (by simp;omega) (Fo.In.below (p.mono j) _ _ HF.o) (L.o.below (p.mono j)) (enters_of func122 Ha rfl) (vN _));have x:=la p;have O:Hid (Fm f d c i=(decide _&& Vh d c&& Ao d c i f)):=rfl;generalize Fm f d c i=R at*
 have k:=ZA (d:=d) (f:=f);have N:=la k;generalize se f d (λ_=>true)=ck at*
 clear p W K X V Y Z k2 k3 k;by_cases T:ck=0
 ·subst T
  cases D:Vh d c with
  | false=>
   have I:=la (show R=false by rw[O.o,D];simp);go_enter func80,ntmps80
   go_wp2_with (first
    | (go_at_call 119;refine M.o.mono ?_;rintro e s ⟨rfl,a⟩;have q:=qb.below Q.o a;have r:=qb.below S.o a;have E:=qb.below P.o a;have y1:s.cell? (Ya (w.heap.size+1))=some (.slice z d.length C):=q.cell 0;have y2:s.cell? (Ya (w.heap.size+1+1))=some (.slice ac c.length A):=r.cell 0;have g:=la (x.o.trans (a.mono (by simp;omega)));have l:=a.size;simp only[Ia]at l;have F:=la E;have R1:=la q;have R2:=la r;have R3:=la (qb.below K3.o a);clear E q r a)
    | (go_at_call 22;refine(Tt d c _ _ s B ja (L.o.below (g.o.mono j)) (y.o.below (g.o.mono j))).mono ?_;rw[D];rintro e m ⟨rfl,b⟩;have h:=la (g.o.trans (b.mono g.o.size));have H:=la b;clear b))
   go_ret;exact⟨Cb I.o.symm,h.o⟩
  | true=>
   have I:=la (show R=Ao d c i f by rw[O.o,D];simp)
   have hlen:c.length=d.length:=by{unfold Vh at D;simp at D;exact D.1.2}
   have HL:=la hlen;clear hlen;go_enter func80,ntmps80
   go_wp2_with (first
    | (go_at_call 119;refine M.o.mono ?_;rintro e s ⟨rfl,a⟩;have q:=qb.below Q.o a;have r:=qb.below S.o a;have E:=qb.below P.o a;have y1:s.cell? (Ya (w.heap.size+1))=some (.slice z d.length C):=q.cell 0;have y2:s.cell? (Ya (w.heap.size+1+1))=some (.slice ac c.length A):=r.cell 0;have g:=la (x.o.trans (a.mono (by simp;omega)));have l:=a.size;simp only[Ia]at l;have F:=la E;have R1:=la q;have R2:=la r;have R3:=la (qb.below K3.o a);clear E q r a)
    | (go_at_call 22;refine(Tt d c _ _ s B ja (L.o.below (g.o.mono j)) (y.o.below (g.o.mono j))).mono ?_;rw[D];rintro e m ⟨rfl,b⟩;have x0:m.cell? (Ya w.heap.size)=some (pa f.op):=(qb.below F.o b).cell 0;have x1:m.cell? (Ja w.heap.size 1)=some (.string f.name):=(qb.below F.o b).cell 1;have x2:m.cell? (Ja w.heap.size 2)=some (pa f.cmp):=(qb.below F.o b).cell 2;have x3:m.cell? (Ja w.heap.size 3)=some (pa f.n):=(qb.below F.o b).cell 3;have x4:m.cell? (Ja w.heap.size 4)=some (.slice G f.kids.length cap):=(qb.below F.o b).cell 4;have LY:=b.size;have F5:w.heap.size<m.heap.size:=ja;have h:=la (g.o.trans (b.mono g.o.size));have H:=la b;clear b)
    | (go_at_call 123;refine(nK d c i HL.o (m.heap.size+1) (w.heap.size+1+1) (w.heap.size+1) (w.heap.size+1+1+1) m.heap.size f.size f _ _ (wa _) (N.o trivial) (adT ja h.o H.o R1.o R2.o R3.o (L.o.below (h.o.mono j)) (y.o.below (h.o.mono j)) (HT.o.below (h.o.mono j)) j) (Fo.In.mono (by omega:B<=m.heap.size+1) _ _ (Fo.In.below ((h.o.mono j).trans ((za _ _).alloc ja _)) _ _ HF.o))).mono ?_;rintro e w5 ⟨rfl,U⟩))
   go_ret;exact⟨Cb I.o.symm,(h.o.trans ((za _ _).alloc ja _)).trans (U.mono (by simp;omega))⟩
 {have I:=la (show R=false by rw[O.o];simp[T]);(have e1:(ck !=0)=true:=by simpa using T);go_enter func80,ntmps80;go_wp2_with (go_at_call 119;refine M.o.mono ?_;rintro e s ⟨rfl,a⟩;have q:=qb.below Q.o a;have r:=qb.below S.o a;have E:=qb.below P.o a;have g:=la (x.o.trans (a.mono (by simp;omega)));have l:=a.size;simp at l;clear E q r a);go_ret;exact⟨Cb I.o.symm,g.o⟩}
end
end Go.Proofs.YtdipkbobalnilaaGreatDoor
