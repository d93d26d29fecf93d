/- The walk of diagram.Build, whatever the limit. A bound on the formula's size. -/
import Derived.Test.YtdipkbobalnilaaGreatDoorAl
import Derived.Test.YtdipkbobalnilaaGreatDoorDgGL
set_option maxRecDepth 100000
set_option maxHeartbeats 4000000
namespace Go.Proofs.YtdipkbobalnilaaGreatDoor
open Tryz
variable{j:Nat}{Z:Int}{D:List Fa}{F:Fo}{g G:Nat->Int}
section
open Go.RowKit
open Go.Sort (grow)
def bQ(w0:Ca)(K j:Nat)(d:List Fa)(h:Fo)(f:Nat):Prop:=
 ∀(c:Bool) (S:List Nat) (m:List Dn) (a:List (Na×Nat)) (i:Nat) (s:Fo) (v:Ea) (W:Ca),K+4∈S->(∀b∈S,b<W.heap.size)->OM d h m a->sj m<=20070->Kk d h i s->d.length-i<f->s.size<=9000->Yk (jJ w0 K c) K S m a W->s.Fk W (ms W K S) v->
  Db 104 #[v,pa i,Ma (K+1),Ma (K+4),Ma j,Ma (K+3),Ma (K+5)] W λe g=>e=.returned (pa (Vg d f c m a i s).2)/\Yk (jJ w0 K (Vg d f c m a i s).1.2) K S (Vg d f c m a i s).1.1.1 (Vg d f c m a i s).1.1.2 g/\re K [K+4] W g
structure nZ (w0 : Ca) (K : Nat) (S : List Nat) (w6 : Ca) (r : ((List Dn × List (Na × Nat)) × Bool) × List Int) (kv : Ea) (wr : Ca) : Prop where
 st:Yk (jJ w0 K r.1.2) K (Mg kv++S) r.1.1.1 r.1.1.2 wr
 VB:re K [K+4] w6 wr
 own:wr.ownsRow w6.heap.size 3 1 kv r.2.length (r.2.map iW)
variable {w0 w6 wr w8 eJ : Ca} {K : Nat} {S : List Nat} {r : ((List Dn × List (Na × Nat)) × Bool) × List Int} {r' : (List Dn × List (Na × Nat)) × Bool} {kv v' : Ea}
theorem My{W a:Ca}{e size n:Nat}{v:Ea}{b:List Ea}(h:W.ownsRow j e size v n b)(hs:re K [K+4] W a)(d:(e==104)=false/\(e==114)=false)(f:K+6<=j):a.ownsRow j e size v n b:=
 vt h hs d λg c=>by have:=(Yh h g c).1;simp;omega
theorem nZ.fJ(h:nZ w0 K S w6 r kv wr)(b:K+6<=w6.heap.size)(a:Yk (jJ w0 K r'.2) K (Mg kv++S) r'.1.1 r'.1.2 w8/\re K [K+4] wr w8)(o:Obj):(w8.alloc o).ownsRow w6.heap.size 3 1 kv r.2.length (r.2.map iW):=
 My h.own (a.2.alloc o) ⟨Ba,Ba⟩ b
theorem nZ.Zx(h:nZ w0 K S w6 r kv wr)(n:K+6<=w0.heap.size)(hw:w0.heap.size<=w6.heap.size)(d:Yk (jJ w0 K r'.2) K (Mg kv++S) r'.1.1 r'.1.2 w8/\re K [K+4] wr w8){o:Obj}(i:(w8.alloc o).grownBy eJ kv.ownBlock){g:Nat}(j:v'.ownBlock=some g)(f:kv.ownBlock=some g\/g=(w8.alloc o).heap.size)
  {k:Int} (c:eJ.ownsRow w6.heap.size 3 1 v' (r.2++[k]).length ((r.2++[k]).map iW)):nZ w0 K S w6 (r',r.2++[k]) v' eJ:=by
 have a:=RD w0 K r'.2;obtain⟨l,m⟩:=(d.1.below ((za _ _).alloc ja o)).Zx ja (h.fJ ja d o) ja i j f;refine⟨l,?_,c⟩;refine(((h.VB.trans (d.2.alloc o)).more (S':=Mg kv++[K+4]) Aa).trans (m.more λb a=>Hg _ a)).less λb a hlt=>?_
 rcases List.mem_append.1 a with a|a
 {(have e:kv.ownBlock=some b:=by unfold Mg at a;simpa using a);have:=(Yh h.own b e).1;omega}
 {exact a}
theorem PM{w0:Ca}{K:Nat}{S:List Nat}{fv:Ea}(P:Ax w0 K j D fv false)(hd:Di D)(f:Nat)(hf7:f<=70)(IH:bQ w0 K j D F f)
  (m:List Dn) (U:List (Na×Nat)) (i:Nat) (s:Fo) (v:Ea) (W:Ca) (hKS:K+4∈S) (QP:∀b∈S,b<W.heap.size) (hI:OM D F m U) (acw:sj m<=20070) (GF:m.length<=20000) (hR:Kk D F i s) (hfu:D.length-i<f+1) (hz:s.size<=9000) (hS:Yk w0 K S m U W) (hf:s.Fk W (ms W K S) v)
  (hc:Fj s=none) (hi:i<D.length) (hk:U.lookup (ik i s)=none):
  Db 104 #[v,pa i,Ma (K+1),Ma (K+4),Ma j,Ma (K+3),Ma (K+5)] W λe W'=>e=.returned (pa (Vg D (f+1) false m U i s).2)/\Yk (jJ w0 K (Vg D (f+1) false m U i s).1.2) K S (Vg D (f+1) false m U i s).1.1.1 (Vg D (f+1) false m U i s).1.1.2 W'/\re K [K+4] W W':=by
 have T6:∀b∈[K+4],b∈S:=λb d=>by rw[List.mem_singleton.1 d];exact hKS
 obtain⟨w,cap,hv,_⟩:=hf.shape;subst hv;have hw:=hR.wf;have yM:=hd.len;have BP:(kg s).length<=1000000:=by have:=cC D _ s (wa _) hw;omega
 have hgr:=SD f hc GF hi hk;have hfo:=cQ hd hI acw hf7 hR hi ja;have O_:∀x∈vm D i s,0<=x/\x<=1000000:=λx hx=>dQ hd hi hx
 have XT:=kJ (d:=D) i s;have D3:0<(vm D i s).length:=by have:=TD hd s hi;exact this
 obtain⟨L,hL⟩:∃L,vm D i s=L:=⟨_,rfl⟩;rw[hL]at hgr hfo O_ XT D3;have KO:=la (λx hx=>xo hd hR hi (v:=x) (by rw[hL];exact hx));have HGZ:=la (λx=>(YF D (Ny D i) x _ s (wa _) hR.wf));have GY:=la hgr;have HFO:=la hfo;have HLR:=la O_;have ams:L.length<=20000:=by omega
 clear hgr hfo O_ XT;have hsz:=hS.size;have G_:=P.size;have B:=hS.below ((za _ _).alloc (wa _) (.cells #[pa s.op,.string s.name,pa s.cmp,pa s.n,.slice w s.kids.length cap] 32));obtain⟨n1,n2⟩:=Xu.1 hc;have e1:(s.op==1)=false:=by simpa using n1
 have e2:(s.op==2)=false:=by simpa using n2
 have r6:=(B.Pd P.mv ⟨Ba,Ba⟩).cell 0;have oZ:=B.Pd P.fb ⟨Ba,Ba⟩;have JT:=oZ.cell 0;have pZ:=oZ.frozen 0;obtain⟨ad,cd,hfv,_⟩:=Sa.shape P.dom;have qZ:=P.dom;rw[hfv]at qZ;obtain⟨I,J,rfl,N,f0',f1',f2',f3',_⟩:=qZ.at i hi;have C6:=(B.Pd P.db ⟨Ba,Ba⟩).cell 0;have rZ:=P.db.cell 0;rw[hfv]at C6 rZ;have efn:Ny D i=D[i].name:=by unfold Ny;rw[Gd]
 have eL:Zk D[i].name D[i].lo D[i].hi s=L:=by rw[<-hL];unfold vm Fg Hi;rw[efn,Gd]
 have eG:∀x,Sg D[i].name x s=yo D i s x:=λx=>by unfold yo;rw[efn]
 generalize D[i]=C at*
 obtain⟨_,⟨mv,mo,xs,g1,g2,g3,_⟩,_⟩:=B.is;obtain⟨ma,mc,IP⟩:=Xd g2;have FF:xs.length=m.length:=by rw[<-g3,Va]
 subst IP;have YK:=g1.cell 0;rw[FF]at YK;have acA:(i==(D.length:Int))=false:=by simp;omega
 have hKb:=P.lt;have hdd:decide (20000<(m.length:Int))=false:=by simp;omega
 have qX:=zt (hS.Pd P.fb ⟨Ba,Ba⟩);have Y:=la qX;have Q:s.In ((W.alloc (.cells #[pa s.op,.string s.name,pa s.cmp,pa s.n,.slice w s.kids.length cap] 32)).alloc (.cells #[.pointer none,Ua] 141)) (W.alloc (.cells #[pa s.op,.string s.name,pa s.cmp,pa s.n,.slice w s.kids.length cap] 32)).heap.size _:=Fo.In.mono Aa s _ (Fo.In.below (((za _ W).alloc (wa _) _).alloc Aa _) s _ (Fo.Fk.back (λb h=>h.1) _ _ hf));have hsp:=(dC D _ _ _ s (wa _) hw _ [] _ Q (UD _) (λc d=>P.Cq c ((B.Hj.below ja).trans (((za _ _).alloc (by simp;omega) _).trans (d.mono (by simp;omega))))) Aa (by simp;omega));rw[Ia]at hsp;have HSP:=la hsp;have FO:=la B;have HE:=la P;have x0:=((qb.new W 32 #[pa s.op,.string s.name,pa s.cmp,pa s.n,.slice w s.kids.length cap]).alloc (.cells #[.pointer none,Ua] 141)).cell 0;have x1:=((qb.new W 32 #[pa s.op,.string s.name,pa s.cmp,pa s.n,.slice w s.kids.length cap]).alloc (.cells #[.pointer none,Ua] 141)).cell 1;have x2:=((qb.new W 32 #[pa s.op,.string s.name,pa s.cmp,pa s.n,.slice w s.kids.length cap]).alloc (.cells #[.pointer none,Ua] 141)).cell 2;have x3:=((qb.new W 32 #[pa s.op,.string s.name,pa s.cmp,pa s.n,.slice w s.kids.length cap]).alloc (.cells #[.pointer none,Ua] 141)).cell 3;have x4:=((qb.new W 32 #[pa s.op,.string s.name,pa s.cmp,pa s.n,.slice w s.kids.length cap]).alloc (.cells #[.pointer none,Ua] 141)).cell 4;have QU:K+6<=W.heap.size:=by omega
 have HF:=la hf;have HWF:=la hw;obtain⟨GG,RP⟩:∃GG,Vg D (f+1) false m U i s=GG:=⟨_,rfl⟩;rw[RP];have Y5:=la (RP.symm.trans GY.o);clear RP GY
 have VD:Hid (∀c,Hid (re K [K+4] (W.alloc (.cells #[pa s.op,.string s.name,pa s.cmp,pa s.n,.slice w s.kids.length cap] 32)) c)->Db 106 #[.agg #[pa s.op,.string s.name,pa s.cmp,pa s.n,.slice w s.kids.length cap],.agg #[.string C.name,pa C.kind,pa C.lo,pa C.hi]] c λe w''=>∃(g lc:Nat),e=.returned (.slice (Nb g) L.length lc)/\
   Hid (w''.ownsRow c.heap.size 3 1 (.slice (Nb g) L.length lc) L.length (L.map iW))/\Hid (Da c.heap.size c w'')/\Hid (re K [K+4] (W.alloc (.cells #[pa s.op,.string s.name,pa s.cmp,pa s.n,.slice w s.kids.length cap] 32)) w'')):=by
  intro c hm;have h1:=rX hf ((re.jc ((za _ W).alloc (wa _) _) (wa _)).trans (hm.o.more T6));have q:=lJ D C s hw ja _ c (Fo.Fk.back (λb h=>h.1) _ _ h1);rw[eL]at q;refine q.mono ?_;rintro e w'' ⟨u,rfl,ho,d⟩;obtain⟨g,lc,rfl,_,_⟩:=ho.form D3;exact⟨g,lc,rfl,ho,d,hm.o.trans (re.jc d ja)⟩
 have V:Hid (∀c,re K [K+4] (W.alloc (.cells #[pa s.op,.string s.name,pa s.cmp,pa s.n,.slice w s.kids.length cap] 32)) c->(c.cell? (Ya W.heap.size)=some (pa s.op)/\c.cell? (Ja W.heap.size 1)=some (.string s.name)/\c.cell? (Ja W.heap.size 2)=some (pa s.cmp)/\c.cell? (Ja W.heap.size 3)=some (pa s.n)/\c.cell? (Ja W.heap.size 4)=some (.slice w s.kids.length cap)/\c.cell? (Ya j)=some (.slice (fe I J) D.length cd)/\c.cell? (Ja I (J+i*4))=some (.string C.name)/\c.cell? (Ja I (J+i*4+1))=some (pa C.kind)/\c.cell? (Ja I (J+i*4+2))=some (pa C.lo)/\c.cell? (Ja I (J+i*4+3))=some (pa C.hi)/\c.cell? (Ya (K+5))=some (.func (.func 104) #[] #[Ma (K+1),Ma (K+4),Ma j,Ma (K+3),.pointer (some ⟨K+5,0,none⟩)]))):=by{intro c hm;have tm:=((B.Hj.more Aa).trans hm).below ja;(have q:∀ {b:Nat} {t:TypeId} {cs:Array Ea},qb (W.alloc (.cells #[pa s.op,.string s.name,pa s.cmp,pa s.n,.slice w s.kids.length cap] 32)) b t cs->b≠K+4->(t==104)=false/\(t==114)=false->qb c b t cs:=λh hne ht=>hm.keep _ _ h (.inr ⟨by simp[fi,ht.1,ht.2],by simpa using hne⟩));have y:=q (qb.new W 32 _) ja ⟨Ba,Ba⟩;have z:=q (B.Pd P.gv ⟨Ba,Ba⟩) ja ⟨Ba,Ba⟩;exact⟨y.cell 0,y.cell 1,y.cell 2,y.cell 3,y.cell 4,(tm.cell hKb).trans rZ,(tm.cell N).trans f0',(tm.cell N).trans f1',(tm.cell N).trans f2',(tm.cell N).trans f3',z.cell 0⟩}
 have OD:Hid (∀c,Hid _->(c.cell? (Ya W.heap.size)=some _/\c.cell? (Ja W.heap.size 1)=some _/\c.cell? (Ja W.heap.size 2)=some _/\c.cell? (Ja W.heap.size 3)=some _/\c.cell? (Ja W.heap.size 4)=some _/\c.cell? (Ya j)=some _/\c.cell? (Ja I (J+i*4))=some _/\c.cell? (Ja I (J+i*4+1))=some _/\c.cell? (Ja I (J+i*4+2))=some _/\c.cell? (Ja I (J+i*4+3))=some _/\c.cell? (Ya (K+5))=some _)/\Hid (re K [K+4] (W.alloc (.cells #[pa s.op,.string s.name,pa s.cmp,pa s.n,.slice w s.kids.length cap] 32)) c)):=λc h=>⟨V.o c h.o,h⟩
 have CI:=la IH;clear hsp hS hf B P hc n1 n2 oZ g1 g2 g3 qX Q hfv FF qZ f0' f1' f2' f3' rZ hI hR IH;go_enter func104,ntmps104;go_upto_region 4 with(fail);rw[Y.o];go_upto_region 7 with(fail);clear r6 JT pZ C6 YK;go_upto_region 8 with(go_at_call 105;refine HSP.o.mono ?_;rintro e w3 ⟨rfl,h1,M,h3⟩;have H3:=la h1;have Jq:=la M;clear h1 M h3);have FT:=((za _ _).alloc (wa _) _).trans (by rw[Ia];exact Jq.o);have MT:=la (FO.o.below FT);have eQ:W.heap.size+2<=w3.heap.size:=by have:=Jq.o.size;simpa using this
 have E3:Hid (Db 68 #[pa i] w3 λe c=>∃sI:Na,e=.returned (.string sI)/\sI.size<=21/\Hid (sI=⟨(Lib.itoa i).toArray⟩)/\Hid (Da w3.heap.size w3 c)):=by{refine(Tryz.strconv_Itoa i ja ja w3 ((HE.o.Cq.on (MT.o.Hj.below ja)).here)).mono ?_;rintro e c ⟨rfl,nq,os,rfl⟩;refine⟨_,rfl,?_,rfl,Jl w3 nq os⟩;have:=Lib.itoa_length_le i ja ja;simpa[ByteArray.size]using this}
 have U6:Hid (∀w4,Da w3.heap.size w3 w4->Db 70 #[Ma (W.heap.size+1)] w4 λe c=>∃sT:Na,e=.returned (.string sT)/\sT.size<=1000000/\Hid (sT=⟨(kg s).toArray⟩)/\Hid (Da (W.heap.size+1) w4 c)):=λw4 d=>by{have CA:=ql H3.o d;have q:=Tryz.Builder_String_any_k _ _ _ w4 CA (by have:=d.size;omega);refine q.mono ?_;rintro e c ⟨rfl,_,M,_⟩;exact⟨_,rfl,by simpa[ByteArray.size]using BP,rfl,M⟩}
 clear HSP Y BP;go_upto_region 9 with(first|(go_at_call 68;refine E3.o.mono ?_;rintro e w4 ⟨sI,rfl,hsI,S_,Lk⟩)|(go_at_call 70;refine(U6.o _ Lk.o).mono ?_;rintro e w5 ⟨sT,rfl,hsT,T_,dr⟩));have nF:=(FT.trans (Lk.o.mono (by rw[Ia];omega))).trans (by rw[Ia];exact dr.o);have HM5:Hid (re K [K+4] _ w5):=re.jc nF (wa _);have U_:=FO.o.below nF;have hdv:=(U_.Pd HE.o.dv ⟨Ba,Ba⟩).cell 0;obtain⟨mp,hm,sX⟩:=U_.Vf;have Yr:=af Cr.key Tryz.underlying87 Fq hm (sI++sT);have V6:Hid (sI++sT=ik i s):=by show _=_;rw[S_.o,T_.o,ByteArray.mk_append_mk];rfl
 have hv:mp.lookup (sI++sT)=none:=by rw[sX,V6.o,hk];rfl
 rw[hv]at Yr;have HS5:=la U_;have LD:W.heap.size+1<=w5.heap.size:=by have:=nF.size;simpa using this
 clear U_ hm sX hv nF FT U6 E3 x0 x1 x2 x3 x4 S_ T_ H3 Jq MT;go_upto_region 12 with(fail);have amw:Hid _:=HM5.o.trans (re.jc ((za _ w5).drew) (wa _))
 go_region_held3 (λc=>(c.cell? (Ya W.heap.size)=some (pa s.op)/\c.cell? (Ja W.heap.size 1)=some (.string s.name)/\c.cell? (Ja W.heap.size 2)=some (pa s.cmp)/\c.cell? (Ja W.heap.size 3)=some (pa s.n)/\c.cell? (Ja W.heap.size 4)=some (.slice w s.kids.length cap)/\c.cell? (Ya j)=some (.slice (fe I J) D.length cd)/\c.cell? (Ja I (J+i*4))=some (.string C.name)/\c.cell? (Ja I (J+i*4+1))=some (pa C.kind)/\c.cell? (Ja I (J+i*4+2))=some (pa C.lo)/\c.cell? (Ja I (J+i*4+3))=some (pa C.hi)/\c.cell? (Ya (K+5))=some (.func (.func 104) #[] #[Ma (K+1),Ma (K+4),Ma j,Ma (K+3),.pointer (some ⟨K+5,0,none⟩)]))/\Hid (re K [K+4] (W.alloc (.cells #[pa s.op,.string s.name,pa s.cmp,pa s.n,.slice w s.kids.length cap] 32)) c))
  (exact OD.o _ La)
  ((go_at_call 106;refine(VD.o _ La).mono ?_;rintro e w6 ⟨g6,c6,rfl,F3,Mw,HM6⟩))
 go_split_ands;go_upto_region 15 with(fail);have aX:w5.heap.size<=w6.heap.size:=Mw.o.size;have V_:Hid _:=HS5.o.below (((za _ w5).drew).trans Mw.o);have E6:Hid (nZ w0 K S w6 (((m,U),false),[]) Ua w6):=⟨V_.o,re.refl _ _ _,rfl,.inl ⟨rfl,rfl⟩⟩
 go_loopw [15,77] (λkv iv wr=>∃(a:Nat) (r:((List Dn×List _)×Bool)×List Int),a<=L.length/\iv=pa a/\Hid (r=Vi D f m U i s (L.take a))/\Hid (nZ w0 K S w6 r kv wr)) (λ_ iv _=>L.length-(intOf iv).toNat)
 case atStart=>exact⟨0,_,ja,rfl,rfl,E6⟩
 case round=>
  obtain⟨a,r,hj,rfl,hr,l⟩:=hrel;obtain⟨Z,ck,hkv⟩:=Xd l.o.own;subst hkv;have p:=HFO.o a hj;rw[<-hr.o]at p;have iZ:r.2.length<=2000000:=by have:=p.len;omega
  have R:=HM6.o.trans l.o.VB;have mF:=l.o.VB.size;clear E6 V_;by_cases hlt:a<L.length
  ·have vF:wr.cell? (Ja g6 a)=some (pa L[a]):=by
    have q:=(My F3.o l.o.VB ⟨Ba,Ba⟩ (by have:=((za w5.heap.size w5).drew).size;omega)).cellAt a ja;rw[gd,Xa hlt]at q;exact q
   have T:=KO.o L[a] (Oa _);have H:=Ow (d:=D) f m U i s L a hlt;rw[<-hr.o]at H;generalize L[a]=x at*
   have hgz:=HGZ.o x;have acE:(yo D i s x).size<=9000:=ub hgz hz
   have A:∀b∈Mg (.slice Z r.2.length ck)++S,b<wr.heap.size:=λb d=>by{(rcases List.mem_append.1 d with d|d);{(have e:(Value.slice Z r.2.length ck).ownBlock=some b:=by unfold Mg at d;simpa using d);obtain⟨_,cs,h4⟩:=Yh l.o.own b e;exact zf h4};{have:=QP b d;omega}}
   have hSo:∀b∈Mg (.slice Z r.2.length ck)++S,b∈S\/W.heap.size<=b:=λb d=>by{(rcases List.mem_append.1 d with d|d);{(have e:(Value.slice Z r.2.length ck).ownBlock=some b:=by unfold Mg at d;simpa using d);have:=(Yh l.o.own b e).1;right;omega};{exact .inl d}}
   have X6:re K [K+4] wr _:=re.jc ((za _ wr).drew) (wa _);have lX:Hid _:=R.trans X6
   have acF:Hid (Db 107 #[.agg #[pa s.op,.string s.name,pa s.cmp,pa s.n,.slice w s.kids.length cap],.string C.name,pa x] wr.drew λe w''=>∃u,e=.returned u/\Hid ((yo D i s x).Fk w'' (ms w'' K (Mg (.slice Z r.2.length ck)++S)) u)/\Hid (Yk (jJ w0 K r.1.2) K (Mg (.slice Z r.2.length ck)++S) r.1.1.1 r.1.1.2 w''/\re K [K+4] wr w'')/\Hid (re K [K+4] (W.alloc (.cells #[pa s.op,.string s.name,pa s.cmp,pa s.n,.slice w s.kids.length cap] 32)) w'')):=by{have h1:=rX (sZ HF.o hSo) ((re.jc ((za _ W).alloc (wa _) _) (wa _)).trans (lX.o.more λb d=>we _ (T6 b d)));have q:=eC _ C.name x D _ s (wa _) ja HWF.o _ _ (λb h=>h.1) h1;rw[eG]at q;refine q.mono ?_;rintro e w'' ⟨u,rfl,M,h3⟩;have h4:=X6.trans (re.jc h3 (wa _));exact⟨u,rfl,tX (W:=wr.drew) A h3 M,⟨l.o.st.below (((za _ wr).drew).trans h3),h4⟩,R.trans h4⟩}
   obtain⟨G,hG⟩:∃G,Vg D f r.1.2 r.1.1.1 r.1.1.2 (i+1) (yo D i s x)=G:=⟨_,rfl⟩;obtain⟨rr,kn⟩:=G;have RF:(rr,r.2++[(kn:Int)])=Vi D f m U i s (L.take (a+1)):=by rw[H];unfold Oy;rw[hG]
   have O6:=la RF
   have acG:Hid (∀w7 u,Hid ((yo D i s x).Fk w7 (ms w7 K (Mg (.slice Z r.2.length ck)++S)) u)->Hid (Yk (jJ w0 K r.1.2) K (Mg (.slice Z r.2.length ck)++S) r.1.1.1 r.1.1.2 w7/\re K [K+4] wr w7)->
     Db 104 #[u,pa (IntKind.i64.wrap (i+1)),Ma (K+1),Ma (K+4),Ma j,Ma (K+3),Ma (K+5)] w7 λe w8=>e=.returned (pa kn)/\Hid (Yk (jJ w0 K rr.2) K (Mg (.slice Z r.2.length ck)++S) rr.1.1 rr.1.2 w8/\re K [K+4] wr w8)/\Hid (re K [K+4] (W.alloc (.cells #[pa s.op,.string s.name,pa s.cmp,pa s.n,.slice w s.kids.length cap] 32)) w8)):=by
    intro w7 u h1 M;have q:=CI.o _ _ _ _ _ _ u w7 (we _ hKS) (λb d=>by have:=A b d;have:=M.o.2.size;omega) p.inv p.Ar T ja acE M.o.1 h1.o;rw[hG]at q;rw[Go.IntWalk.i64_in _ ja];refine q.mono ?_;rintro e w8 ⟨rfl,h3,h4⟩;exact⟨rfl,⟨h3,M.o.2.trans h4⟩,R.trans (M.o.2.trans h4)⟩
   clear RF hG H T p hgz R X6 A hSo hr;go_upto_region 17 with(fail);refine wp_region_held_drew (S:=(λc=>Hid _)) Ha lX (λMb=>?_);refine tp 0 ?_;refine tk 1 ?v1 ?y1 ?_
   case y1=>(intro w9 Be;obtain⟨y0,y1,y2,y3,y4,y5,y6,y7,y8,y9,RU⟩:=V.o w9 Be.o;go_simp;try with_reducible rfl)
   refine tk 2 ?v2 ?y2 ?_
   case y2=>(intro w9 Be;obtain⟨y0,y1,y2,y3,y4,y5,y6,y7,y8,y9,RU⟩:=V.o w9 Be.o;go_simp;try with_reducible rfl)
   refine tp 3 ?_;refine tk 4 ?v4 ?y4 ?_
   case y4=>(intro w9 Be;obtain⟨y0,y1,y2,y3,y4,y5,y6,y7,y8,y9,RU⟩:=V.o w9 Be.o;go_simp;try with_reducible rfl)
   refine tp 5 ?_;refine tk 6 ?v6 ?y6 ?_
   case y6=>(intro w9 Be;go_simp;try with_reducible rfl)
   refine tp 7 ?_;refine tk 8 ?v8 ?y8 ?_
   case y8=>(intro w9 Be;obtain⟨y0,y1,y2,y3,y4,y5,y6,y7,y8,y9,RU⟩:=V.o w9 Be.o;go_simp;try with_reducible rfl)
   refine tp 9 ?_;refine tp 11 ?_;refine tp 12 ?_;refine tr 10 (λK hK=>?_)
   (go_simp;go_at_call 107;refine acF.o.mono ?_;rintro e w7 ⟨u7,rfl,W_,X,mX⟩)
   refine hK.o _ _ ?_ (λMb=>?_)
   {exact mX}
   clear hK K;refine tr 13 (λK hK=>?_)
   (go_simp;go_at_call 104;refine(acG.o w7 u7 W_ X).mono ?_;rintro e w8 ⟨rfl,DI,VT⟩)
   refine hK.o _ _ ?_ (λMb=>?_)
   {exact VT}
   clear hK K;refine tr 14 (λK hK=>?_)
   go_simp
   refine hK.o _ _ ?_ (λMb=>?_)
   {exact VT.o.alloc _}
   clear hK K;refine tr 15 (λK hK=>?_)
   (apply SF (l.o.fJ ja DI.o _) Ra _ _ Ra Ra _ Ra (by have:=DI.o.2.size;rw[Ia];omega) ja kn ((qb.new _ _ _).cell 0);intro g10 c10 eJ h10 MU kZ;have XP:=la (l.o.Zx G_ ja DI.o MU rfl kZ h10))
   refine hK.o _ _ ?_ (λMb=>?_)
   {exact HM6.o.trans XP.o.VB}
   clear hK K
   try simp only[Act.put,sA,sB,sC]
   refine tp 16 ?_;refine wpAnyH_done Ha ?_ _;go_wp2;go_roundw
   case rel=>exact⟨_,_,ja,by go_num,O6,XP⟩
   case measure=>simp[intOf];omega
  ·have QD:a=L.length:=by omega
   have T:=hr.o;rw[QD,Ub]at T;have YP:=Y5.o;rw[<-T]at YP;obtain⟨q,hq⟩:∃q,Ob r.1.1.1 i L r.2=q:=⟨_,rfl⟩;rw[hq]at YP;have fZ:=la YP;have E:L.length=r.2.length:=by rw[p.len];omega
   have A:∀b∈Mg (.slice Z r.2.length ck)++S,b<wr.heap.size:=λb d=>by{(rcases List.mem_append.1 d with d|d);{(have e:(Value.slice Z r.2.length ck).ownBlock=some b:=by unfold Mg at d;simpa using d);obtain⟨_,cs,h4⟩:=Yh l.o.own b e;exact zf h4};{have:=QP b d;omega}}
   have Q:=YB K K _ _ i L r.2 _ _ wr l.o.st.is (Ki (My F3.o l.o.VB ⟨Ba,Ba⟩ (by have:=((za w5.heap.size w5).drew).size;omega))) (Ki l.o.own) A
    (by have:=p.small;omega) (λe=>absurd D3 (by rw[E,e];simp)) E ja ja (λx hx=>by have:=HLR.o x hx;exact⟨ja,ja⟩) (λx hx=>by have:=p.kids x hx;exact⟨ja,ja⟩)
    (by
     rw[Gd _ _ _ ja]
     exact(p.kids _ (Oa _)).1) ((HE.o.bw _).Cq.on (l.o.st.Hj.below (by have:=RD w0 K r.1.2;omega)))
   rw[hq]at Q;have HQ:=la Q;have Q6:=(l.o.st.Pd (HE.o.bw _).mv ⟨Ba,Ba⟩).cell 0;have lX:Hid _:=(re.jc ((za _ W).alloc (wa _) _) (wa _)).trans R;clear Q YP T hq p E A R QD;go_upto_region 20 with(go_at_call 108;refine HQ.o.mono ?_;rintro e w7 ⟨rfl,M,h3⟩;have X:=la (l.o.st.step h3 M);have mX:=la (h3.s.more (S':=[K+4]) Aa);clear M h3);have acu:=(X.o.Pd (HE.o.bw _).dv ⟨Ba,Ba⟩).cell 0;obtain⟨mp2,jL,NU⟩:=X.o.Vf;obtain⟨W2,ZB,C3,JO⟩:=run_store Cr.key Tryz.underlying87 jL (sI++sT) q.2;have O:=X.o.Ey NU JO C3 jL;rw[V6.o]at O;have R6:=la O;go_wp2;go_ret;rw[fZ.o];exact⟨rfl,R6.o.1.less (λk hk=>we _ hk),(lX.o.trans mX.o).trans (R6.o.2.more Aa)⟩
end
open Go.RowKit
theorem fC{w0:Ca}{K B:Nat}{d:List Fa}{G:Ea}(j:Ax w0 K B d G false)(hd:Di d){F:Fo}:
  ∀f,f<=70->bQ w0 K B d F f
 | 0,_=>λb S m g i s v W _ _ _ _ _ y=>absurd y ja
 | f+1,I=>by
  intro b S m g i s v W n x C p t y L hst u;have J:=Gl C.made;cases c:Fj s with
  | some E=>{rw[WD f c];obtain q:=QM (j.bw b) i s E c m g ja v W hst u;exact q.mono λe D ⟨l,r,w⟩=>⟨l,r,w.more Aa⟩}
  | none=>
   have z:i<d.length:=by
    rcases td i d.length with h|h
    {exact h}
    ·have:i=d.length:=by have:=t.le;omega
     grind [cy]
   by_cases o:(b || decide (20000<m.length))=true
   {rw[SA f c o];have q:=mJ (j.bw b) n i s c m g ja o v W hst u;have e:Kl (jJ w0 K b) K=jJ w0 K true:=by{(cases b);{rfl};{exact zt (Xt j.fb _)}};rw[e]at q;exact q}
   {(have H:(b || decide (20000<m.length))=false:=by grind);obtain⟨l,r⟩:=Bool.or_eq_false_iff.1 H;subst l;(have a:m.length<=20000:=by grind);cases A:g.lookup (ik i s)with| some k=>{rw[XD f c a z A];have q:=RM j i z hd.len s c t.wf (by have:=cC d _ s (wa _) t.wf;omega) m g a k A v W hst u;exact q.mono λe D ⟨l,r,w⟩=>⟨l,r,w.more Aa⟩}| none=>exact PM j hd f ja (fC j hd f ja) m g i s v W n x C p a t y L hst u c z A}
section
attribute [local go_sem] kh
theorem SM(t:List Dn)(H q:Nat)(S:List Nat)(x:Nat)(W:Ca)(C:Zh W H q S t)(A:Lg j g G t)(F:x<t.length)(Y:t.length<=900000)(Z:(Mc t (j+1) [] x).length>20000):
  Db 49 #[Ma q,pa (x:Int)] W λe M=>e=.returned (.tuple #[.agg #[Ua],pa 2])/\Da W.heap.size W M:=by
 have O:=@run_makeMap prog;obtain⟨w0,n,p,c,d,m,z⟩:=tL W q;have K:=la (qs W w0 H _ q S p rfl C d m A ja (j+1) x [] w0 F ja Kd Aa c);have b:=cn A (j+1) [] x F ja Kd Aa;have L:=la b
 have Q:(Mc t (j+1) [] x).length<=t.length:=by{have:=Ac b.1.nodup (λy U=>List.mem_range.2 (b.1.inside y U));rwa[Jd]at this}
 have N:=z.cell 0;have T:=p.v.cell 0;have V:=la p;have u:=la z;have r:=la d;have h:=la n;generalize Mc t _ [] x=o at*
 clear C A p c d z b;go_enter func49,ntmps49;go_upto_region 5 with(fail);rw[<-h.o];clear n h;have E:W.heap.size+6<=w0.heap.size:=by omega
 clear m;go_upto_region 6 with(go_at_call 88;refine K.o.mono ?_;rintro e w1 ⟨rfl,i⟩;have a:=la i;clear i);have R:=a.o.size;obtain⟨vo,B,l⟩:=a.o.ord;have f:=ej L.o.2;obtain⟨ob,J,rfl,P,D⟩:=l.form f;have X:=B.cell 0;have s:=la (r.o.trans ((a.o.below ja).mono ja));have k:=(a.o.Pd u.o ja ja).cell 0;have I:=(a.o.Pd u.o ja ja).frozen 0;have w:=la (a.o.Pd u.o ja ja);go_wp2;rw[zt w.o];refine Fb (by simp[results,go_sem,k];try rfl) rfl ?_;exact⟨rfl,s.o⟩
end
section
theorem fQ{w0:Ca}{K:Nat}{a:Ea}(h:Y6 w0 K j D a):Ax w0 K j D a false:=⟨h.mv,h.dv,h.fb,h.gv,h.db,h.lt,h.dom,h.Cq,h.size⟩
theorem SU{w0 W:Ca}{K:Nat}{S:List Nat}{b:List (Na×Nat)}(h:Yk w0 K [] [] b W):Yk w0 K S [] b W:=by
 refine⟨h.Hj,?_,h.own,h.Vf⟩;obtain⟨a,⟨v,j,k,c,d,e,l,f⟩,g⟩:=h.is;have:k=[]:=by grind
 subst this;exact⟨a,⟨v,j,[],c,d,e,λx i=>(by cases i),f⟩,g⟩
theorem gQ{W w0:Ca}{K:Nat}(h:Da K W w0)(a:Bool):Da K W (jJ w0 K a):=by
 cases a
 {exact h}
 {exact h.setCell (by grind) _}
theorem Yu{R:Ending->Ca->Prop}{tmps:Array Ea}{w:Ca}{c v:Ea}(f:qb w j 55 #[c])(a:tmps.getD 4 undef=Ma j)(b:tmps.getD 5 undef=pa Z)(_:v.oneCell'=true)(e:R (.returned (.tuple #[.agg #[v],pa Z])) (w.setCell (Ya j) v)):bodyPost prog f62 R .ret ⟨tmps,[]⟩ (w.setCell (Ya j) v):=by
 have hcs:=(f.set 0 v).cell 0;rw[Nf]at a b;exact Fb (by simp[results,go_sem,hcs,a,b];try rfl) rfl e
attribute [local go_sem] kh
theorem us(f:Fo)(d:List Fa)(v u:Ea)(w:Ca)(B:Nat)(hs:f.size<=1000000)(hB:B<=w.heap.size)(hf:f.In w B v)(hd:jf w B d u)(hT:Jh w.heap.size w):
  Db 62 #[v,u] w λe a=>∃g,e=.returned (.tuple #[g,pa (Nc d f).2])/\Zd a a.heap.size (Nc d f).1 g/\Da w.heap.size w a:=by
 obtain⟨D,cap,rfl⟩:=hf.shape;have HD:=la hd;obtain⟨du,rfl,M2⟩:=hd;obtain⟨V,W,rfl,d1,d2,_⟩:=Sa.shape M2;have HF:=la hf;have hB3:Da _ w (((w.alloc (.cells #[pa f.op,.string f.name,pa f.cmp,pa f.n,.slice D f.kids.length cap] 32)).alloc (.cells #[.slice V d.length W] 24)).alloc (.cells #[Ua] 55)):=(((za _ _).alloc (wa _) _).alloc Aa _).alloc (by simp;omega) _;have K0:qb (((w.alloc _).alloc (.cells #[.slice V d.length W] 24)).alloc (.cells #[Ua] 55)) _ 32 _:=((qb.new w 32 #[pa f.op,.string f.name,pa f.cmp,pa f.n,.slice D f.kids.length cap]).alloc _).alloc _
 have K1:qb (((w.alloc (.cells #[pa f.op,.string f.name,pa f.cmp,pa f.n,.slice D f.kids.length cap] 32)).alloc (.cells #[.slice V d.length W] 24)).alloc (.cells #[Ua] 55)) (w.heap.size+1) 24 #[.slice V d.length W]:=by{have q:=(qb.new (w.alloc (.cells #[pa f.op,.string f.name,pa f.cmp,pa f.n,.slice D f.kids.length cap] 32)) 24 #[.slice V d.length W]).alloc (.cells #[Ua] 55);simpa only[Ia]using q}
 have K2:qb (((w.alloc (.cells #[pa f.op,.string f.name,pa f.cmp,pa f.n,.slice D f.kids.length cap] 32)).alloc (.cells #[.slice V d.length W] 24)).alloc (.cells #[Ua] 55)) (w.heap.size+2) 55 #[Ua]:=by{have q:=qb.new ((w.alloc (.cells #[pa f.op,.string f.name,pa f.cmp,pa f.n,.slice D f.kids.length cap] 32)).alloc (.cells #[.slice V d.length W] 24)) 55 #[Ua];simpa only[Ia]using q}
 have HV:=la (Lj d _ _ B (by simp;omega) (HD.o.below (hB3.mono hB)))
 have tZ:Hid (∀a,Da w.heap.size w a->Db 78 #[.agg #[pa f.op,.string f.name,pa f.cmp,pa f.n,.slice D f.kids.length cap],.agg #[.slice V d.length W],Ua] a λe w''=>e=.returned (pa (se f d (λ_=>false)))/\Da a.heap.size a w''):=λa p=>Xr f d [] _ _ _ a B hs (by have:=p.size;omega) (Fo.In.below (p.mono hB) _ _ HF.o) (HD.o.below (p.mono hB)) ⟨none,0,rfl,wa _,Lb _,λh=>absurd rfl h⟩
 obtain⟨J,RP⟩:∃J,Nc d f=J:=⟨_,rfl⟩;rw[RP];have L:=la RP;have uZ:=la hT;have Jq:=la hB3;have Bt:=la K0;have Zu:=la K1;have OT:=la K2;have HDU:=la M2;clear hf M2 RP hT hB3 K0 K1 K2;cases H:gf d with
 | false=>{rw[H]at HV;(have l:J=([],1):=by rw[<-L.o];unfold Nc;rw[Ga (.inl H)]);subst l;go_enter func62,ntmps62;go_wp2_with (go_at_call 46;refine HV.o.mono ?_;rintro e w4 ⟨rfl,c⟩;have vZ:=la (Bt.o.below c);have uX:=la (Zu.o.below c);have m:=la (OT.o.below c);have z2:=m.o.frozen 0;have c2:=m.o.cell 0;have K:=la (Jq.o.trans (c.mono (by simp;omega)));have FI:=c.size;simp at FI;clear c);exact Yu m.o rfl rfl rfl ⟨_,rfl,Zd.nil _ _,K.o.setCell (by show w.heap.size<=w.heap.size+1+1;omega) _⟩}
 | true=>
  rw[H]at HV
  have HTS:Hid (∀I,Da w.heap.size w I->Db 103 #[.agg #[pa f.op,.string f.name,pa f.cmp,pa f.n,.slice D f.kids.length cap],.map (some I.heap.size)] (I.alloc (.map #[] 0)) λe a=>e=.returned (.map (some I.heap.size))/\nJ (I.alloc (.map #[] 0)) I.heap.size (dl f []) a):=λI p=>
   TU d B (I.alloc _) _ (by have:=p.size;omega) (by have:=p.size;simp;omega) _ f (wa _) _ [] _ ⟨rfl,rfl,rfl,wa _,λ_ _ _=>rfl,Wb.made I⟩
    (Fo.In.below ((p.trans (((za _ _).alloc (wa _) _).mono p.size)).mono hB) _ _ HF.o)
  have zO:=@run_makeMap prog;obtain⟨ec,D5⟩:∃ec,se f d (λ_=>false)=ec:=⟨_,rfl⟩;rw[D5]at tZ;have HEC:=la D5;have HVD:=la H;clear D5 H;go_enter func62,ntmps62
  go_upto_if 19 with(first|(go_at_call 46;refine HV.o.mono ?_;rintro e w4 ⟨rfl,c⟩;have vZ:=la (Bt.o.below c);have uX:=la (Zu.o.below c);have m:=la (OT.o.below c);obtain⟨x0,x1,x2,x3,x4⟩:=vZ.o.yD;have y0:=uX.o.cell 0;have z2:=m.o.frozen 0;have c2:=m.o.cell 0;have K:=la (Jq.o.trans (c.mono (by simp;omega)));have FI:=c.size;simp only[Ia]at FI;clear c)|(go_at_call 78;refine(tZ.o _ K.o).mono ?_;rintro e I ⟨rfl,r⟩;clear x0 x1 x2 x3 x4 y0 z2 c2;have Z6:=la (vZ.o.below r);have HY1:=la (uX.o.below r);have N:=la (m.o.below r);obtain⟨x0,x1,x2,x3,x4⟩:=Z6.o.yD;have z2:=N.o.frozen 0;have c2:=N.o.cell 0;have dr:=la (K.o.trans (r.mono ja));have LD:=r.size;clear r))
  clear tZ HV;cases hne:ec !=0 with
  | true=>{(have l:J=([],1):=by rw[<-L.o];unfold Nc;rw[HEC.o,Ga (.inr (by simpa using hne))]);subst l;go_wp2;exact Yu N.o rfl rfl rfl ⟨_,rfl,Zd.nil _ _,dr.o.setCell (by show w.heap.size<=w.heap.size+1+1;omega) _⟩}
  | false=>
   have E:se f d (λ_=>false)=0:=by rw[HEC.o];simpa using hne
   have hw:=jk E;have hsz:=(Pp E).1
   go_upto_if 25 with(go_at_call 103;refine(HTS.o I dr.o).mono ?_;rintro e w6 ⟨rfl,hst⟩;obtain⟨es,ck,G3,GF⟩:=hst.map;have hes:=(by have q:=congrArg List.length GF;simpa using q);have s:=((za _ _).alloc (wa _) _).trans (hst.below Aa (wa _));have BP:=run_len_map (P:=prog) (w:=w6) 169 3 _ es ck Ha G3;rw[hes]at BP;clear hst GF x0 x1 x2 x3 x4 z2 c2;have X_:=la (Z6.o.below s);have wO:=la (HY1.o.below s);have Q:=la (N.o.below s);have z2:=Q.o.frozen 0;have c2:=Q.o.cell 0;have t:=la (dr.o.trans (s.mono ja));have aX:=s.size;clear s)
   cases hlen:decide ((24:Int)<((dl f []).length:Int))with
   | true=>{(have l:J=([],2):=by rw[<-L.o];unfold Nc;rw[if_neg (by rw[HVD.o];simp[E]),Ga (by simp at hlen;omega)]);subst l;go_wp2;exact Yu Q.o rfl rfl rfl ⟨_,rfl,Zd.nil _ _,t.o.setCell (by show w.heap.size<=w.heap.size+1+1;omega) _⟩}
   | false=>
    have l:J=if(nk d f).1.2=true\/20000<(Wi d f).length then([],2)else(ue (nk d f).1.1.1 (Wi d f),0):=by rw[<-L.o];unfold Nc;rw[if_neg (by rw[HVD.o];simp[E]),if_neg (by simp at hlen;omega)]
    have vX:=la l;clear l;have x:=la (eh HVD.o);have C:=la hw;clear E hw hne;go_upto_region 5 with(fail);clear G3 BP hes hlen;obtain⟨w0,lM,hEB,G,tm,CO⟩:=TM w6 _ d _ wO.o ((Sa.below Jk.kept (t.o.mono hB) HDU.o).mono Jk.mono ja) (λa p=>uZ.o a (t.o.trans (p.mono ja)));have hE:=fQ hEB;have Z:=SU (S:=[w6.heap.size+4]) G;clear hEB G;have DO:=la lM;have HE:=la hE;have acK:=la Z;have iL:=la tm;have X:=t.o.trans (tm.mono ja)
    have HIP:Hid (f.Fk _ (ms w0.drew w6.heap.size [w6.heap.size+4]) _):=
     Fo.Fk.step (P:=(· <B)) (λ_ _=>rfl) (λb h=>⟨by show b<w0.heap.size;omega,by simp;omega,.inl ja⟩) _ _ (Fo.In.a7 _ _ (Fo.In.below (X.drew.mono hB) _ _ HF.o))
    have HMD:Hid (re w6.heap.size [w6.heap.size+4] w0 _):=re.jc ((za _ w0).drew) (wa _)
    have zN:Hid (Db 107 #[.agg #[pa f.op,.string f.name,pa f.cmp,pa f.n,.slice D f.kids.length cap],.string (⟨#[]⟩),pa 0] w0.drew λe w''=>∃u,e=.returned u/\Hid ((Sg We 0 f).Fk w'' (ms w'' w6.heap.size [w6.heap.size+4]) u)/\Hid (Yk w0 w6.heap.size [w6.heap.size+4] [] [] w'')/\Hid (re w6.heap.size [w6.heap.size+4] w0 w'')):=by{have q:=eC _ We 0 d _ f (wa _) ja C.o _ _ (λb h=>h.1) HIP.o;refine q.mono ?_;rintro e w'' ⟨u,rfl,h2,h3⟩;exact⟨u,rfl,tX (λb p=>by rw[List.mem_singleton.1 p];show _<w0.heap.size;omega) h3 h2,acK.o.below (((za _ w0).drew).trans h3),HMD.o.trans (re.jc h3 ja)⟩}
    obtain⟨U,GI⟩:∃U,nk d f=U:=⟨_,rfl⟩;have M:=la GI
    have Y_:Hid (∀w7 u,Hid ((Sg We 0 f).Fk w7 (ms w7 w6.heap.size [w6.heap.size+4]) u)->Hid (Yk w0 w6.heap.size [w6.heap.size+4] [] [] w7)->Hid (re w6.heap.size [w6.heap.size+4] w0 w7)->Db 104 #[u,pa 0,Ma (w6.heap.size+1),Ma (w6.heap.size+4),Ma (w.heap.size+1),Ma (w6.heap.size+3),Ma (w6.heap.size+5)] w7 λe w8=>e=.returned (pa U.2)/\Hid (Yk (jJ w0 w6.heap.size U.1.2) w6.heap.size [w6.heap.size+4] U.1.1.1 U.1.1.2 w8)/\Hid (re w6.heap.size [w6.heap.size+4] w0 w8)):=by{intro w7 u h1 h2 h3;have hgz:=YF d We 0 _ f (wa _) C.o;have yM:=x.o.len;have q:=fC HE.o x.o (d.length+1) ja false _ [] [] 0 _ u w7 Aa (λb p=>by rw[List.mem_singleton.1 p];have:=h2.o.size;omega) (Py f) (Lb _) (Mj C.o) ja ja h2.o h1.o;rw[<-M.o];refine q.mono ?_;rintro e w8 ⟨rfl,h4,h5⟩;exact⟨rfl,h4,h3.o.trans h5⟩}
    have OD:Hid (∀a,Hid (re w6.heap.size [w6.heap.size+4] w0 a)->(a.cell? (Ya w.heap.size)=some (pa f.op)/\a.cell? (Ja w.heap.size 1)=some (.string f.name)/\a.cell? (Ja w.heap.size 2)=some (pa f.cmp)/\a.cell? (Ja w.heap.size 3)=some (pa f.n)/\a.cell? (Ja w.heap.size 4)=some (.slice D f.kids.length cap)/\a.cell? (Ya (w6.heap.size+5))=some (.func (.func 104) #[] #[Ma (w6.heap.size+1),Ma (w6.heap.size+4),.pointer (some ⟨w.heap.size+1,0,none⟩),Ma (w6.heap.size+3),Ma (w6.heap.size+5)]))/\Hid (re w6.heap.size [w6.heap.size+4] w0 a)):=by{intro a hm;have z:=X_.o.below (iL.o.trans (hm.o.below ja));have k5:qb a _ 178 _:=hm.o.keep _ _ HE.o.gv (.inr ⟨rfl,Aa⟩);exact⟨⟨z.cell 0,z.cell 1,z.cell 2,z.cell 3,z.cell 4,k5.cell 0⟩,hm⟩}
    have y:=la (Qy x.o C.o);have hsm:=ZF x.o C.o;rw[GI]at y hsm;clear lM hE Z tm X GI;go_upto_region 10 with(fail);rw[<-DO.o]
    go_region_held3 (λa=>(a.cell? (Ya w.heap.size)=some (pa f.op)/\a.cell? (Ja w.heap.size 1)=some (.string f.name)/\a.cell? (Ja w.heap.size 2)=some (pa f.cmp)/\a.cell? (Ja w.heap.size 3)=some (pa f.n)/\a.cell? (Ja w.heap.size 4)=some (.slice D f.kids.length cap)/\a.cell? (Ya (w6.heap.size+5))=some (.func (.func 104) #[] #[Ma (w6.heap.size+1),Ma (w6.heap.size+4),.pointer (some ⟨w.heap.size+1,0,none⟩),Ma (w6.heap.size+3),Ma (w6.heap.size+5)]))/\Hid (re w6.heap.size [w6.heap.size+4] w0 a))
     (exact OD.o _ La)
     (first
      | (go_at_call 107;refine zN.o.mono ?_;rintro e w7 ⟨u7,rfl,W_,Z_,mX⟩)
      | (go_at_call 104;refine(Y_.o _ _ W_ Z_ mX).mono ?_;rintro e w8 ⟨rfl,A,VT⟩))
    go_split_ands;have G':=RD w0 w6.heap.size U.1.2;have R:=(gQ iL.o _).trans (A.o.Hj.below ja);have KP:=R.size;have amz:=(A.o.Pd (HE.o.bw _).fb ⟨Ba,Ba⟩).cell 0;have abI:=(A.o.Pd (HE.o.bw _).mv ⟨Ba,Ba⟩).cell 0;have j:=la (Q.o.below R);have hy8:=j.o.cell 0;have j7:=j.o.frozen 0;have Wu:=la (t.o.trans (R.mono ja));have HTF:=la (λn hn=>(Tm x.o y.o.inv.made.table n hn).1);have F:=y.o.lt;have his:=la A.o.is;have I3:=la y.o.inv.made.table;obtain⟨⟨⟨T,dn⟩,fl⟩,k⟩:=U;simp only at*
    clear A VT W_ Z_ mX R OD Y_ zN HIP HMD y;cases fl with| true=>{(have hg:J=([],2):=by rw[vX.o,M.o];exact Ga (.inl rfl));go_wp2;exact Yu j.o rfl rfl rfl (by rw[hg];exact⟨_,rfl,Zd.nil _ _,Wu.o.setCell (by show w.heap.size<=w.heap.size+1+1;omega) _⟩)}| false=>{by_cases Y:20000<(Mc T (d.length+1) [] k).length;{(have hg:J=([],2):=by rw[vX.o];unfold Wi;rw[M.o];exact Ga (.inr Y));have JP:=la (SM T _ _ _ k w8 his.o I3.o F ja Y);go_wp2_with (go_at_call 49;refine JP.o.mono ?_;rintro e w9 ⟨rfl,i⟩;have c9:=(j.o.below i).cell 0;have z9:=(j.o.below i).frozen 0;have O:=la (j.o.below i));exact Yu O.o rfl rfl rfl (by rw[hg];exact⟨_,rfl,Zd.nil _ _,(Wu.o.trans (i.mono ja)).setCell (by show w.heap.size<=w.heap.size+1+1;omega) _⟩)};{(have hg:J=(ue T (Mc T (d.length+1) [] k),0):=by rw[vX.o];unfold Wi;rw[M.o];exact if_neg (by simp;omega));have JP:Hid (Db 49 #[Ma w6.heap.size,pa k] w8 λe W'=>∃(au:Option Addr) (cu:Nat),e=.returned (.tuple #[.agg #[.slice au (ue T (Mc T (d.length+1) [] k)).length cu],pa 0])/\Hid (Zd W' W'.heap.size (ue T (Mc T (d.length+1) [] k)) (.agg #[.slice au (ue T (Mc T (d.length+1) [] k)).length cu]))/\Hid (Da w8.heap.size w8 W')):=by{have q:=aG T _ _ _ k w8 his.o I3.o F ja ja (λn hn=>by have:=HTF.o n hn;omega);refine q.mono ?_;rintro e W' ⟨_,rfl,⟨u,rfl,h1⟩,h2⟩;obtain⟨au,cu,rfl,_⟩:=Sa.shape h1;exact⟨au,cu,rfl,⟨_,rfl,h1⟩,h2⟩};(generalize ue T _=TT at*);go_wp2_with (go_at_call 49;refine JP.o.mono ?_;rintro e w9 ⟨au,cu,rfl,HU9,i⟩;have c9:=(j.o.below i.o).cell 0;have z9:=(j.o.below i.o).frozen 0;have O:=la (j.o.below i.o));have cZ:=i.o.size;refine Yu O.o rfl rfl rfl ?_;rw[hg];refine⟨_,rfl,?_,(Wu.o.trans (i.o.mono ja)).setCell (by show w.heap.size<=w.heap.size+1+1;omega) _⟩;simp;exact HU9.o.set O.o _}}
end
end Go.Proofs.YtdipkbobalnilaaGreatDoor
