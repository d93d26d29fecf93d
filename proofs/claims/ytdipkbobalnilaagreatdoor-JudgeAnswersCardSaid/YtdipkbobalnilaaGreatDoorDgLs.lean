/- The walks of the closure of diagram.Least and of diagram.Least. Bounds on the nodes' rows. -/
import Derived.Test.YtdipkbobalnilaaGreatDoorAl
import Derived.Test.YtdipkbobalnilaaGreatDoorDgAX
set_option maxRecDepth 100000
set_option maxHeartbeats 4000000
namespace Go.Proofs.YtdipkbobalnilaaGreatDoor
open Tryz
variable{j:Nat}{C:List Int}{g G:Nat->Int}
theorem bV{d:List Fa}{t:List Dn}(h:Qc d t):∀n∈t,n.kids.length<=1000001/\n.Sb.length<=1000000/\0<=n.fact/\n.fact<=60/\(∀x∈n.Sb,0<=x/\x<=1000000)/\∀x∈n.kids,0<=x/\x<=20000:=by
 intro n i;have hd:=eh h.dom;have f:=Tm hd h.table n i;obtain⟨k,g,rfl⟩:=Zc i;have b:=h.table k g;rw[Gd _ _ _ g]at b;refine⟨f.1,f.2,?_⟩;by_cases c:t[k].kids=[]
 {rw[c,(b.leaf c).2,(b.leaf c).1];simp}
 {have a:=b.inner c;have l:=hd.Uu _ a.2.2.1;have j:=hd.len;refine⟨a.2.1,ja,λx e=>?_,λx e=>?_⟩;{have:=Vm _ _ a.2.2.2.2.2.1 x e;omega};{have:=a.2.2.2.2.2.2.2 x e;have:=h.Ar;omega}}
theorem Oi{d:List Fa}{t:List Dn}(h:Qc d t):∀n∈t,zx n:=λn g=>by
 obtain⟨b,c,i,j,e,f⟩:=bV h n g;refine⟨⟨ja,ja⟩,λx a=>?_,λx a=>?_,c,b⟩
 {have:=e x a;exact⟨ja,ja⟩}
 {have:=f x a;exact⟨ja,ja⟩}
section
variable {d : List Fa}
theorem Xh{t:List Dn}(h:Qc d t):Qc d (Hd t)/\∀c,od d.length (Fg d) (Hi d) c->Uc d (Hd t) 0 c= !Uc d t 0 c:=by
 have g:=GQ h.yh;have j:(Hd t).length=t.length:=by grind [Hd]
 have n:Mc _ _ [] 0=Mc t (d.length+1) [] 0:=GJ (IQ t) _ _ _
 have b:Qc d (Hd t):=by
  refine⟨h.dom,by rw[j];exact h.pos,by rw[j];exact h.Ar,g.table,g.nodup,?_⟩;rw[n];have a:=(lj h.yh.table h.pos (f:=d.length+1) ja).1;have i:=h.again;revert i a;generalize Mc t _ [] 0=o;intro a i
  have e:ue (Hd t) o=(ue t o).map Lt:=by
   unfold ue;rw[Ze];refine Ch λk m=>?_
   rw[Yp (a.inside k m)]
   grind [Lt,List.map_eq_nil_iff]
  rw[e,i]
  rfl
 refine⟨b,λc l=>Et b.yh g _ 0 b.pos (wa _) c l⟩
end
open Go.RowKit
def Aj:List Int->List Int->Bool
 | [],_=>false
 | _::_,[]=>false
 | a::x,b::y=>if a=b then Aj x y else decide (a<b)
theorem IJ{t:List Dn}{M:Nat->(Nat->Int)->Bool}(a:Ce j g G t M):∀(f b x:Nat) (c:Nat->Int),x<t.length->j-Rb j (t.getD x Ka)<f->j-Rb j (t.getD x Ka)<b->Hh t f x c=Hh t b x c:=by
 intro f
 induction f with
 | zero=>omega
 | succ f p=>
  intro b x c e l m;obtain⟨b,rfl⟩:∃k,b=k+1:=⟨b-1,ja⟩;unfold Hh;by_cases d:(t.getD x Ka).kids=[]
  ·grind
  ·rw[if_neg d,if_neg d]
   have n:=iz a e d;have h:(t.getD x Ka).kids.getD (Fi t (t.getD x Ka)) 0∈(t.getD x Ka).kids:=by grind
   obtain⟨_,b2,i⟩:=((a.table x e).inner d).2.2.2.2.2.2.2 _ h;have o:Rb j (t.getD x Ka)=(t.getD x Ka).fact.toNat:=by grind [Rb]
   have hlt:=((a.table x e).inner d).2.2.1
   grind
def Zp(l:List Int):Nat->Int:=λi=>l.getD i 0
theorem JQ(l:List Int)(i:Nat)(v:Int)(h:i<l.length):Zp (l.set i v)=om (Zp l) i v:=by
 funext j
 show(l.set i v).getD j 0=if j=i then v else l.getD j 0
 grind
theorem cV(d:List Fa):Zp (d.map Fa.lo)=Fg d:=by
 funext j
 show(d.map _).getD j 0=(d.getD j Ka).lo
 rw[zc,zc,gd];cases d[j]? with| none=>rfl| some f=>rfl
def Ex(d:List Fa)(t:List Dn):(Nat->Int)×Nat:=Hh t (d.length+1) 0 (Fg d)
def Ld(d:List Fa)(t:List Dn):Option (List Int):=if Fh d t=true then if(t.getD (Ex d t).2 Ka).leaf then some ((List.range d.length).map (Ex d t).1)else none else none
theorem bN(h:C.length=j)(hF:Zp C=g):C=(List.range j).map g:=by
 subst hF;apply List.ext_getElem
 {simp[h]}
 ·intro i a b
  rw[Sd,List.getElem_range]
  show C[i]=C.getD i 0
  grind
section
theorem vC:∀(x y:List Int),x.length=y.length->Aj x y=true->KQ x.length (Zp x) (Zp y)
 | [],_,_,h=>by grind [Aj]
 | a::x,[],h,_=>by simp at h
 | a::x,b::y,g,h=>by
  rw[Aj]at h;by_cases e:a=b
  ·rw[Ga e]at h
   obtain⟨p,i,d,f⟩:=vC x y (by simpa using g) h;refine⟨p+1,by simp;omega,?_,λj c=>?_⟩
   ·show(a::x).getD _ 0<(b::y).getD _ 0
    skip;exact d
   ·cases j with
    | zero=>exact e
    | succ j=>exact f j ja
  {rw[if_neg e]at h;exact⟨0,Aa,by simpa[Zp]using h,λj c=>absurd c ja⟩}
variable {d : List Fa} {t : List Dn}
variable {d : List Fa} {t : List Dn}
theorem dV(hd:Di d):od d.length (Fg d) (Hi d) (Fg d):=λi a=>⟨ja,yv hd i a⟩
theorem tG(h:Qc d t)(f:nj (t.getD 0 Ka)=true):(t.getD (Ex d t).2 Ka).leaf=true/\od d.length (Fg d) (Hi d) (Ex d t).1/\Uc d t 0 (Ex d t).1=true/\
  ∀e,od d.length (Fg d) (Hi d) e->Uc d t 0 e=true->¬KQ d.length e (Ex d t).1:=by
 have q:=LQ h.yh (d.length+1) 0 0 _ h.pos ja f (dV (eh h.dom)) (Lb _) (λ_ _ _=>rfl);exact⟨q.2.2.1,q.2.2.2.1,q.2.2.2.2.1,λe a b=>q.2.2.2.2.2.2 e a b (λj c=>absurd c ja)⟩
theorem uG(a:nj (t.getD 0 Ka)=false):(t.getD (Ex d t).2 Ka).leaf=false/\∀c,Uc d t 0 c=false:=by
 obtain⟨b,e⟩:=Eo a;constructor
 ·grind [Ex,Hh]
 ·intro c
  unfold Uc ym
  grind
theorem cN(a:C=(List.range d.length).map g):C.length=d.length/\∀j,j<d.length->Zp C j=g j:=by
 subst a;refine⟨Aa,λj b=>?_⟩
 show((List.range _).map g).getD j 0=g j
 grind
theorem jz(h:Qc d t)(a:Ld d t=none):Uc d t 0 g=false:=by
 grind [Ld,Gh,tG,uG]
theorem Yi(h:Qc d t)(a:Ld d t=some C):nj (t.getD 0 Ka)=true/\C.length=d.length/\od d.length (Fg d) (Hi d) (λi=>C.getD i 0)/\Uc d t 0 (λi=>C.getD i 0)=true/\
  ∀c:List Int,c.length=d.length->od d.length (Fg d) (Hi d) (λi=>c.getD i 0)->Aj c C=true->Uc d t 0 (λi=>c.getD i 0)=false:=by
 unfold Ld at a;rw[Ga (Gh.2 h)]at a;cases v:nj (t.getD 0 Ka)with
 | false=>grind [uG]
 | true=>
  obtain⟨m,g,n,o⟩:=tG h v;rw[Ga m]at a;obtain⟨x,f⟩:=cN (Qe a).symm
  have l:od d.length (Fg d) (Hi d) (λi=>C.getD i 0):=λi u=>by
   have:=g i u
   grind
  refine⟨rfl,x,l,?_,λc s p hlt=>?_⟩
  {rw[<-n];exact JJ h.yh.table h.yh.reads _ 0 h.pos (wa _) _ _ l g (λj _ b=>f j b)}
  ·cases w:Uc d t 0 (λi=>c.getD i 0)with
   | false=>rfl
   | true=>{exfalso;refine o _ p w ?_;obtain⟨k,e,q,r⟩:=vC c C ja hlt;rw[s]at e;refine⟨k,e,?_,λj b=>?_⟩;{rw[<-f k e];exact q};{rw[<-f j ja];exact r j b}}
end
theorem KJ(t:List Dn)(m:Option Addr)(n:Nat)(k:Int)(p:Nat)(w:Ca)(B:Nat)(r:Sa br 4 w B t (.slice m t.length n))(D:w.cell? (Ya p)=some (.slice m t.length n))(x:0<=k)(s:k.toNat<t.length):
  Db 43 #[pa k,Ma p] w λe C=>e=.returned (.bool (nj (t.getD k.toNat Ka)))/\Da w.heap.size w C:=by
 have y:k<t.length:=by omega
 obtain⟨b,o,rfl,v,I,J,E,F,G,H,i,f⟩:=r.at _ s;rw[Gd _ _ _ s];obtain⟨K,L,rfl,_⟩:=Sa.shape f;have c:nj t[k.toNat]=(!decide (t[k.toNat].kids=[]) || t[k.toNat].leaf):=by unfold nj;cases t[k.toNat].kids<;>rfl
 have g:((t[k.toNat].kids).length=0↔t[k.toNat].kids=[]):=Gg;obtain⟨R,q⟩:∃R,nj t[k.toNat]=R:=⟨_,rfl⟩;rw[q]at c⊢;have d:=la c;clear i f q c r;generalize t[k.toNat].leaf=A at*
 generalize t[k.toNat].kids=u at*
 generalize u.length=l at*
 by_cases a:u=[]
 {have z:=g.2 a;(have j:decide (0<l)=false:=by simp;omega);have h:=la (show R=A by rw[d.o,Hb a];rfl);go_enter func43,ntmps43;go_wp2;go_ret;exact⟨Cb h.o.symm,za _ _⟩}
 {(have z:l≠0:=λe=>a (g.1 e));(have j:decide (0<l)=true:=by simp;omega);have h:=la (show R=true by rw[d.o,Za a];rfl);go_enter func43,ntmps43;go_wp2;go_ret;exact⟨Cb h.o.symm,za _ _⟩}
theorem LJ(d:List Fa)(t:List Dn)(vg u:Ea)(w:Ca)(B:Nat)(hB:B<=w.heap.size)(hg:Zd w B t vg)(hd:jf w B d u)(h64:∀n∈t,zx n)(hT:Jh w.heap.size w):
  Db 18 #[vg,u] w λe i=>∃cv,e=.returned (.tuple #[cv,.bool (Ld d t).isSome])/\IntsIn i i.heap.size ((Ld d t).getD []) cv/\(∀g,cv.ownBlock=some g->w.heap.size<=g/\g<i.heap.size)/\Da w.heap.size w i:=by
 have HG:=la hg;have HD:=la hd;obtain⟨_,rfl,O⟩:=hg;obtain⟨_,rfl,EM⟩:=hd;have DA:=la O;obtain⟨ag,cg,rfl,l1,l2,_⟩:=Sa.shape O;obtain⟨Z,cd,rfl,_⟩:=Sa.shape EM;unfold maxLen at l2;have E:Da _ w ((w.alloc (.cells #[.slice ag t.length cg] 55)).alloc (.cells #[.slice Z d.length cd] 24)):=((za _ _).alloc (wa _) _).alloc Aa _;have K0:qb ((w.alloc _).alloc (.cells #[.slice Z d.length cd] 24)) _ 55 _:=(qb.new w 55 #[.slice ag t.length cg]).alloc _
 have K1:qb ((w.alloc (.cells #[.slice ag t.length cg] 55)).alloc (.cells #[.slice Z d.length cd] 24)) (w.heap.size+1) 24 #[.slice Z d.length cd]:=by{have q:=qb.new (w.alloc (.cells #[.slice ag t.length cg] 55)) 24 #[.slice Z d.length cd];simpa only[Ia]using q}
 have Qu:(((w.alloc (.cells #[.slice ag t.length cg] 55)).alloc (.cells #[.slice Z d.length cd] 24))).heap.size=w.heap.size+2:=by simp
 obtain⟨W,hW⟩:∃W,((w.alloc (.cells #[.slice ag t.length cg] 55)).alloc (.cells #[.slice Z d.length cd] 24))=W:=⟨_,rfl⟩;rw[hW]at E K0 K1 Qu;have HW:=la hW;have OA:=la E;have Bt:=la K0;have Zu:=la K1;have x0:=K0.cell 0;have y0:=K1.cell 0;have H:=ds d t _ _ W B ja (HG.o.below (E.mono hB)) (HD.o.below (E.mono hB)) h64 (λi N=>hT i (E.trans (N.mono ja)));clear O EM hW E K0 K1 hT h64;cases hv:Fh d t with
 | false=>{(have hG:Ld d t=none:=by unfold Ld;rw[hv];rfl);rw[hG];rw[hv]at H;have HV:=la H;clear H hv hG;go_enter func18,ntmps18;go_upto_region 1 with(fail);rw[HW.o];go_wp2_with (go_at_call 19;refine HV.o.mono ?_;rintro e w3 ⟨rfl,v⟩;have y0:=(Zu.o.below v).cell 0;have R:=la (OA.o.trans (v.mono ja));clear v);refine Fb (by simp[results,go_sem];try rfl) rfl ?_;exact⟨_,rfl,⟨none,0,rfl,wa _,ja,λh=>absurd rfl h⟩,λ_ h=>(by cases h),R.o⟩}
 | true=>
  rw[hv]at H;have HV:=la H;have D:=la (Gh.1 hv)
  have C7:Hid (∀i,Da w.heap.size w i->Db 41 #[.agg #[.slice Z d.length cd]] i λe w''=>∃u,e=.returned u/\w''.ownsRow i.heap.size 3 1 u (d.map Fa.lo).length ((d.map Fa.lo).map iW)/\Da i.heap.size i w''):=λi N=>MJ d _ i B (by have:=N.size;omega) (HD.o.below (N.mono hB)) D.o.dom
  have hF:Hid (Ld d t=if(t.getD (Ex d t).2 Ka).leaf then some ((List.range d.length).map (Ex d t).1)else none):=by show _=_;unfold Ld;rw[Ga hv]
  have hFU:Hid (∀f,d.length-Rb d.length (t.getD 0 Ka)<f->Hh t f 0 (Zp (d.map Fa.lo))=Ex d t):=λf hf=>by{rw[cV];exact IJ D.o.yh f _ 0 _ D.o.pos hf ja}
  generalize Ld d t=G at*
  generalize Ex d t=F at*
  have oE:=D.o.pos;clear H hv;go_enter func18,ntmps18;go_upto_region 1 with(fail);rw[HW.o];go_upto_region 5 with(first|(go_at_call 19;refine HV.o.mono ?_;rintro e w3 ⟨rfl,v⟩;have y0:=(Zu.o.below v).cell 0;have vZ:=la (Bt.o.below v);have R:=la (OA.o.trans (v.mono ja));have eQ:=v.size;clear v)|(go_at_call 41;refine(C7.o _ R.o).mono ?_;rintro e w4 ⟨u4,rfl,ho4,T⟩;have x4:=(vZ.o.below T).cell 0;rw[Va]at ho4;have P3:=la ho4;have Lk:=la T;have FI:=T.size;clear ho4 T));obtain⟨ca,cc,Q3⟩:=Xd P3.o;subst Q3;have Z5:Hid (∀f,d.length<f->Hh t f (0:Int).toNat _=F):=λf hf=>hFU.o f ja
  have P:(0:Int).toNat<t.length:=oE;have KU:Hid ((d.map Fa.lo).length=d.length/\w4.ownsRow _ 3 1 _ _ _):=⟨Va _,P3.o⟩;clear hFU x4 C7 HV
  go_loopw [7] (λav wr=>∃(x:Int) (L:List Int),av=pa x/\0<=x/\x.toNat<t.length/\Hid (L.length=d.length/\wr.ownsRow w3.heap.size 3 1 (.slice ca d.length cc) d.length (L.map iW))/\Hid (∀f,d.length<f->Hh t f x.toNat (Zp L)=F)/\Hid (Da w3.heap.size w3 wr)) (λav _=>d.length-Rb d.length (t.getD (intOf av).toNat Ka))
  case atStart=>exact⟨0,_,rfl,ja,P,KU,Z5,Lk⟩
  case round=>
   obtain⟨x,L,rfl,QI,Y,j,hFx,N⟩:=hrel;clear Z5 KU P;have hsz:=N.o.size;have ez:x<t.length:=by omega
   have x5:=(vZ.o.below N.o).cell 0;have r:Hid _:=R.o.trans (N.o.mono ja);obtain⟨b,o,rfl,Tn,vc,vk,n0,n1,n2,n3,D7,MO⟩:=DA.o.at _ Y;have q0:=(r.o.cell (by show b<w.heap.size;omega)).trans n0;have q1:=(r.o.cell (by show b<w.heap.size;omega)).trans n1;have q2:=(r.o.cell (by show b<w.heap.size;omega)).trans n2;have q3:=(r.o.cell (by show b<w.heap.size;omega)).trans n3;have X:=D.o.table _ Y;have a:=Gd t _ Ka Y;have m:=λhk=>iz D.o.yh Y hk
   have hF2:=hFx.o;rw[a]at X m;have HCU:=la D7;have HKI:=la MO;obtain⟨xa,xc,rfl,_⟩:=Sa.shape D7;obtain⟨ya,yc,rfl,yk1,yk2,_⟩:=Sa.shape MO;unfold maxLen at yk2;clear n0 n1 n2 n3 D7 MO;have V:((t[x.toNat].kids).length=0↔t[x.toNat].kids=[]):=Gg;by_cases z:t[x.toNat].kids=[]
   {have hz:=V.2 z;have hFe:F=(Zp L,x.toNat):=by{rw[<-hF2 (d.length+1) ja];unfold Hh;rw[a,Ga z]};have s:=hF.o;rw[hFe]at s;dsimp only at s;rw[a, <-bN j.o.1 rfl]at s;have vX:=la s;clear s hFe hF2 hF hFx m X a;generalize t[x.toNat]=n at*;(have hq1:decide (0<(n.kids.length:Int))=false:=by simp;omega);(have E7:decide (0<n.kids.length)=false:=by simp;omega);clear hz z V;cases hlf:n.leaf with| true=>{(have s:G=some L:=by rw[vX.o,hlf];rfl);subst s;go_wp2;refine Fb (by simp[results,go_sem];try rfl) rfl ?_;exact⟨_,rfl,Ki (l:=L) (by rw[j.o.1];exact j.o.2),λg h=>⟨ub ja (j.o.2.lt g h).1,(j.o.2.lt g h).2⟩,r.o⟩}| false=>{(have s:G=none:=by rw[vX.o,hlf];rfl);subst s;go_wp2;refine Fb (by simp[results,go_sem];try rfl) rfl ?_;exact⟨_,rfl,⟨none,0,rfl,wa _,ja,λh=>absurd rfl h⟩,λ_ h=>(by cases h),r.o⟩}}
   ·have C:=X.inner z
    have U:=m z;have BT:Fi t _=(t[x.toNat].kids).findIdx (λk=>nj _):=rfl
    have hstep:∀f,d.length<f->Hh t f ((t[x.toNat].kids).getD (Fi t t[x.toNat]) 0).toNat (if 0<Fi t t[x.toNat]then om (Zp L) (t[x.toNat].fact).toNat ((t[x.toNat].Sb).getD (Fi t t[x.toNat]-1) 0)else Zp L)=F:=λf hf=>by{rw[<-hF2 (f+1) ja];(conv=>rhs;unfold Hh);rw[a,if_neg z]}
    have P_:Rb d.length (t.getD x.toNat Ka)=(t[x.toNat].fact).toNat:=by rw[a];unfold Rb;rw[if_neg z]
    have hz:t[x.toNat].kids.length≠0:=λe=>z (V.1 e)
    clear m hF2 X a V;generalize t[x.toNat]=n at*
    have hq1:decide (0<(n.kids.length:Int))=true:=by simp;omega
    have E7:decide (0<n.kids.length)=true:=by simp;omega
    have hbU:Da _ wr (wr.alloc (.cells #[pa n.fact,.slice xa n.Sb.length xc,.slice ya n.kids.length yc,.bool n.leaf] 104)):=(za _ _).alloc (wa _) _;have aab:=r.o.trans (hbU.mono ja);have HN:Hid (qb _ wr.heap.size 104 #[pa n.fact,.slice xa n.Sb.length xc,.slice ya n.kids.length yc,.bool n.leaf]):=qb.new _ _ _;have HX5:Hid (qb (wr.alloc (.cells #[pa n.fact,.slice xa n.Sb.length xc,.slice ya n.kids.length yc,.bool n.leaf] 104)) _ 55 _):=(vZ.o.below N.o).alloc _
    have hI:=vG 43 #[.pointer _] (enters_of func43 Ha rfl) (λk=>nj _) _ _ _ B (by rw[Ia];omega) (IntsIn.below (aab.mono hB) HKI.o)
     (λk hk W' hW'=>KJ t _ _ k _ W' B (Sa.below br.kept ((aab.trans (hW'.mono (by rw[Ia];omega))).mono hB) DA.o) ((HX5.o.below hW').cell 0) (C.2.2.2.2.2.2.2 k hk).1 (C.2.2.2.2.2.2.2 k hk).2.1)
    have hfi:=lz (λk=>nj (t.getD k.toNat Ka)) n.kids 0;rw[Vb,show((0:Nat):Int)=0 from rfl,Ga (List.any_eq_true.2 (List.findIdx_lt_length.1 (by exact U))), <-BT]at hfi;rw[hfi]at hI;have HI:=la hI;have hkm:(n.kids).getD (Fi t n) 0∈n.kids:=by rw[Gd _ _ _ U];exact Oa _
    obtain⟨kF,CZ,EI⟩:=C.2.2.2.2.2.2.2 _ hkm;rw[Gd _ _ _ U]at hstep kF CZ EI;obtain⟨kb,ko,hya,hkB,MQ⟩:=Sa.one HKI.o _ U;subst hya;have F7:Hid (∀i,Da w.heap.size w i->i.cell? (Ja kb (ko+Fi t n))=some (pa n.kids[Fi t n])):=λi AI=>(AI.cell (by show kb<w.heap.size;omega)).trans MQ
    have hf0:=C.2.1;have Mu:=C.2.2.1;have pL:=la C.2.2.2.2.1;have EX:d.length-Rb d.length (t.getD (n.kids[Fi t n]).toNat Ka)<d.length-Rb d.length (t.getD x.toNat Ka):=by rw[P_];omega
    have HHK:Hid (0<=n.kids[Fi t n]/\(n.kids[Fi t n]).toNat<t.length):=⟨kF,CZ⟩;have A:=la hstep;clear hI hfi hkm hstep MQ BT C EI P_ hF hFx;generalize adf:Fi t n=J at*
    clear adf;generalize n.kids[J]=kv at*
    have KT:=la EX;clear EX;generalize adg:n.fact=fc at*
    obtain⟨I,rfl⟩:∃I:Nat,fc=I:=⟨fc.toNat,ja⟩;clear adg;rw[Fc]at A Mu;have amW:I<(d.length:Int):=by omega
    have amX:0<=(J:Int):=Xb _;have amY:J<(n.kids.length:Int):=by omega
    by_cases pZ:J=0
    {(have eX:decide (0<(J:Int))=false:=by simp;omega);(have O:decide (0<J)=false:=by simp;omega);(have HS:Hid (∀f,d.length<f->Hh t f kv.toNat (Zp L)=F):=λf hf=>by{have:=A.o f hf;rw[if_neg ja]at this;exact this});clear A pZ;go_wp2_with ((go_at_call 42;refine HI.o.mono ?_;rintro e Q ⟨rfl,c⟩;have p0:=(HN.o.below c).cell 0;have p1:=(HN.o.below c).cell 1;have p2:=(HN.o.below c).cell 2;have y:=la (hbU.trans (c.mono Aa));have KP:=c.size;simp at KP;clear c);have hk9:=F7.o Q (r.o.trans (y.o.mono ja)));go_roundw;(case rel=>exact⟨kv,L,rfl,ja,ja,⟨j.o.1,Wd j.o.2 y.o⟩,HS,N.o.trans (y.o.mono ja)⟩);case measure=>exact KT.o}
    {obtain⟨M,hfp⟩:∃M,J=M+1:=⟨J-1,ja⟩;(have G7:M<n.Sb.length:=by have:=pL.o;omega);(have I7:IntKind.i64.wrap (J-1)=M:=by rw[IntWalk.i64_in _ ja];omega);(have eX:decide (0<(J:Int))=true:=by simp;omega);(have O:decide (0<J)=true:=by simp;omega);obtain⟨jb,jo,hxa,hjB,hjc⟩:=Sa.one HCU.o M G7;subst hxa;(have adj:Hid (∀i,Da w.heap.size w i->i.cell? (Ja jb (jo+M))=some (pa n.Sb[M])):=λi AI=>(AI.cell (by show jb<w.heap.size;omega)).trans hjc);(have HS:Hid (∀f,d.length<f->Hh t f kv.toNat (Zp (L.set I n.Sb[M]))=F):=λf hf=>by{have:=A.o f hf;rw[Ga ja,hfp,qf,Gd _ _ _ G7, <-JQ L I _ (by rw[j.o.1];exact Mu)]at this;exact this});(have ana:M<(n.Sb.length:Int):=ja);have anb:0<=(M:Int):=Xb _;obtain⟨cb,cc2,hca,hcb,anc⟩:=j.o.2.form ja;(obtain⟨rfl,rfl⟩:ca=some ⟨cb,0,none⟩/\cc=cc2:=by simpa using hca);clear A pZ hjc hfp hca;generalize n.Sb[M]=cu at*;go_upto_region 9 with((go_at_call 42;refine HI.o.mono ?_;rintro e Q ⟨rfl,c⟩;have p0:=(HN.o.below c).cell 0;have p1:=(HN.o.below c).cell 1;have p2:=(HN.o.below c).cell 2;have y:=la (hbU.trans (c.mono Aa));have KP:=c.size;simp at KP;clear c);have hk9:=F7.o Q (r.o.trans (y.o.mono ja));have J7:=adj.o Q (r.o.trans (y.o.mono ja)));have S:=Wd j.o.2 y.o;have EA:=S.cellAt I ja;have j7:=S.frozenAt I;have hst:=(World.ownsRow.drew S).stored I (iW cu);rw[gd,Xa (by rw[j.o.1];exact Mu)]at EA;simp at EA;have A:=la hst;clear hst;refine Xp 10 (λi=>i.cell? _=some (.int _ _)/\i.cell? _=some (.slice _ _ xc)/\i.cell? _=some _) Ha ⟨p0,p1,J7⟩ (λMb=>?_);refine xp 0 ?_;refine xp 1 ?_;refine xp 3 ?_;refine xp 5 ?_;refine xk 2 ?v2 ?y2 ?_;(case y2=>(intro w9 Be;obtain⟨q1,q2,q3⟩:=Be;go_simp;try with_reducible rfl));refine xk 4 ?v4 ?y4 ?_;(case y4=>(intro w9 Be;obtain⟨q1,q2,q3⟩:=Be;go_simp;try with_reducible rfl));refine xp 6 ?_;refine xp 7 ?_;refine xk 8 ?v8 ?y8 ?_;(case y8=>(intro w9 Be;obtain⟨q1,q2,q3⟩:=Be;go_simp;try with_reducible rfl));refine xp 9 ?_;refine xl 10 (λK hK=>?_);go_simp;refine hK.o _ _ ?_;clear hK K;refine sk Ha ?_ _;(have eV:∀b',b'≠cb->((Q.setCell _ (pa cu)).drew).heap[b']? =Q.heap[b']? :=λb' hne=>Oc Q (Ja cb I) _ b' hne);have p9:((Q.setCell _ _).drew).cell? _=some (.slice _ _ yc):=(World.cell?_of_block (eV wr.heap.size ja)).trans p2;have k9:=(World.cell?_of_block (eV kb ja)).trans hk9;have eU:Hid (Da _ w3 ((Q.setCell _ (pa cu)).drew)):=((N.o.trans (y.o.mono ja)).setCell (p:=Ja cb I) ja _).drew;have vK:Hid ((L.set I cu).length=d.length/\((Q.setCell _ (.int _ cu)).drew).ownsRow _ 3 1 _ _ ((L.set I cu).map iW)):=⟨by rw[Cg];exact j.o.1,by rw[List.map_set];exact A.o.1⟩;clear EA j7 S eV p0 p1 p2 J7 hk9;generalize(Q.setCell _ _).drew=w9 at*;go_wp2;go_roundw;(case rel=>exact⟨kv,_,rfl,ja,ja,vK,HS,eU⟩);case measure=>exact KT.o}
theorem Ul(d:List Fa)(t:List Dn)(c u:Ea)(w:Ca)(B:Nat)(j:B<=w.heap.size)(l:Zd w B t c)(hd:jf w B d u)(b:∀n∈t,zx n)(k:Jh w.heap.size w):
  Db 18 #[c,u] w λe f=>∃a,e=.returned (.tuple #[a,.bool (Ld d t).isSome])/\IntsIn f f.heap.size ((Ld d t).getD []) a/\Da w.heap.size w f:=
 (LJ d t c u w B j l hd b k).mono λ_ _ ⟨a,g,h,_,i⟩=>⟨a,g,h,i⟩
end Go.Proofs.YtdipkbobalnilaaGreatDoor
