/- The walks of slices.EqualFunc at formulas and of formula.Same: it tells only equal ones the same. No conditions. -/
import Derived.Test.YtmafmhlfjficmaaGreatDoorRkZ
import Derived.Test.YtmafmhlfjficmaaGreatDoorRkGA
import Derived.Test.YtmafmhlfjficmaaGreatDoorCheckA
import Derived.Test.YtmafmhlfjficmaaGreatDoorFactA
import Derived.Test.YtmafmhlfjficmaaGreatDoorTokA
set_option maxRecDepth 100000
set_option maxHeartbeats 4000000
namespace Go.Proofs.YtmafmhlfjficmaaGreatDoor
section
open Go.RowKit
theorem countL_ge :∀(ks:List Fo) (most n:Int),0<=most->1<=n->n<=most+1->n<=countL ks most n
 | [],most,n,_,_,_=>by rw[countL];omega
 | k::ks,most,n,h0,h1,h2=>by
  rw[countL]
  split
  ·have:=countF_bd k (most-n) (by omega)
   have:=countL_ge ks most (n+countF k (most-n)) h0 (by omega) (by omega);omega
  ·omega
mutual
theorem countF_eq :∀(f:Fo) (most:Int),0<=most->countF f most<=most->countF f most=(f.size:Int)
 | .mk _ _ _ _ ks,most,h0,h=>by
  rw[countF]at h⊢;rw[countL_eq ks most 1 (by omega) (by omega) (by omega) h,Fo.size];omega
theorem countL_eq :∀(ks:List Fo) (most n:Int),0<=most->1<=n->n<=most+1->countL ks most n<=most->countL ks most n=n+(Fo.sizeL ks:Int)
 | [],most,n,_,_,_,_=>by rw[countL,Fo.sizeL];omega
 | k::ks,most,n,h0,h1,h2,h=>by
  rw[countL]at h⊢;by_cases hn:n<=most
  ·rw[if_pos hn]at h⊢
   have hb:=countF_bd k (most-n) (by omega);have hg:=countL_ge ks most (n+countF k (most-n)) (by omega) (by omega) (by omega);have hk:=countF_eq k (most-n) (by omega) (by omega);rw[countL_eq ks most (n+countF k (most-n)) h0 (by omega) (by omega) h,hk,Fo.sizeL];omega
  ·rw[if_neg hn]at h
   omega
end
theorem smallF_size {f:Fo}{most:Nat}(h:smallF f most=true):f.size<=most:=by
 unfold smallF at h;have h1:=of_decide_eq_true h;have:=countF_eq f most (by omega) h1;omega
structure LwL (w W : World) (b : Nat) (d : List Fa) (ps : List Pv) (ts : List Int) (v : Value) (cs : Array Value) : Prop where
 box:Blk W b 28 cs
 law:LawT W W.heap.size d ps ts v
 tab:TabH W.heap.size W
 low:Below w.heap.size w W
variable {w W W' : World} {b : Nat} {d : List Fa} {ps : List Pv} {ts : List Int} {v : Value} {cs : Array Value}
theorem LwL.step (h:LwL w W b d ps ts v cs)(hb:Below W.heap.size W W'):LwL w W' b d ps ts v cs:=
 ⟨h.box.below hb,(h.law.below hb).mono hb.size,fun w' h'=>h.tab w' (hb.trans (h'.mono hb.size)),h.low.trans (hb.mono h.low.size)⟩
theorem lwl_start {w:World}{v:Value}{cs:Array Value}(hl:LawT w w.heap.size d ps ts v)(hT:TabH w.heap.size w):Hid (LwL w (w.alloc (.cells cs 28)) w.heap.size d ps ts v cs):=by
 have hb:Below w.heap.size w (w.alloc (.cells cs 28)):=(Below.refl _ _).alloc (Nat.le_refl _) _;exact⟨Blk.new w _ _,(hl.below hb).mono hb.size,fun w' h'=>hT w' (hb.trans (h'.mono hb.size)),hb⟩
structure SizL (ps : List Pv) : Prop where
 len:ps.length<=8
 size:∀p∈ps,p.cond.size<=1000000
theorem siz_of (h:fewL d ps 8=true):SizL ps:=by
 unfold fewL at h;simp only[Bool.and_eq_true,decide_eq_true_eq,List.all_eq_true]at h;obtain⟨⟨h1,_⟩,h3⟩:=h;refine⟨by omega,fun p hp=>?_⟩;have:=h3 p hp;unfold fewP at this;simp only[Bool.and_eq_true,decide_eq_true_eq]at this;exact Nat.le_trans (smallF_size (most:=250) this.1.1.1.1) (by decide)
theorem lwl_head (h:Hid (LwL w W b d ps ts v cs)):Calls Tryz.prog 9 #[] W fun e W'=>e=.returned (.bool true)/\ Hid (LwL w W' b d ps ts v cs):=by
 refine(head15_any W h.out.tab).mono ?_;rintro e w' ⟨rfl,hb⟩;exact⟨rfl,h.out.step hb⟩
theorem lwl_few (h:Hid (LwL w W b d ps ts v cs)){R:Bool}(hR:fewL d ps 8=R):Calls Tryz.prog 10 #[v] W fun e W'=>e=.returned (.bool R)/\ Hid (LwL w W' b d ps ts v cs):=by
 refine(few15_any d ps ts v W h.out.law).mono ?_;rintro e w' ⟨rfl,hb⟩;exact⟨by rw[hR],h.out.step hb⟩
theorem lwl_why (h:Hid (LwL w W b d ps ts v cs))(hs:Hid (SizL ps))(i j:Int){x e0:Int}(hx:whyA d ps ts i j=(x,e0)):Calls Tryz.prog 14 #[v,.int .i64 i,.int .i64 j] W fun e W'=>e=.returned (.tuple #[.int .i64 x,.int .i64 e0])/\ Hid (LwL w W' b d ps ts v cs):=by
 have:=hs.out.len;refine(why_any d ps ts i j v W (by omega) h.out.law hs.out.size h.out.tab).mono ?_;rintro e w' ⟨rfl,hb⟩;exact⟨by rw[hx],h.out.step hb⟩
theorem lwl_special (h:Hid (LwL w W b d ps ts v cs))(hs:Hid (SizL ps))(i j:Int){x:Bool}{e0:Int}(hx:specialA d ps ts i j=(x,e0)):Calls Tryz.prog 12 #[v,.int .i64 i,.int .i64 j] W fun e W'=>e=.returned (.tuple #[.bool x,.int .i64 e0])/\ Hid (LwL w W' b d ps ts v cs):=by
 have:=hs.out.len;refine(special_any d ps ts i j v W (by omega) h.out.law hs.out.size h.out.tab).mono ?_;rintro e w' ⟨rfl,hb⟩;exact⟨by rw[hx],h.out.step hb⟩
theorem lwl_beats (h:Hid (LwL w W b d ps ts v cs))(hs:Hid (SizL ps))(i j:Int){x:Bool}{e0:Int}(hx:beatsA d ps ts i j=(x,e0)):Calls Tryz.prog 16 #[v,.int .i64 i,.int .i64 j] W fun e W'=>e=.returned (.tuple #[.bool x,.int .i64 e0])/\ Hid (LwL w W' b d ps ts v cs):=by
 have:=hs.out.len;refine(beats_any d ps ts i j v W (by omega) h.out.law hs.out.size h.out.tab).mono ?_;rintro e w' ⟨rfl,hb⟩;exact⟨by rw[hx],h.out.step hb⟩
theorem lwl_beatF (h:Hid (LwL w W b d ps ts v cs))(hs:Hid (SizL ps))(i j:Int){x:Bool}(hx:beatF d ps ts i j=x):Calls Tryz.prog 21 #[v,.int .i64 i,.int .i64 j] W fun e W'=>e=.returned (.bool x)/\ Hid (LwL w W' b d ps ts v cs):=by
 have:=hs.out.len;refine(beats15_any d ps ts i j v W (by omega) h.out.law hs.out.size h.out.tab).mono ?_;rintro e w' ⟨rfl,hb⟩;exact⟨by rw[hx],h.out.step hb⟩
theorem lwl_inside (h:Hid (LwL w W b d ps ts v cs))(i j:Int){x:Bool}(hx:insideL ps i j=x):Calls Tryz.prog 22 #[v,.int .i64 i,.int .i64 j] W fun e W'=>e=.returned (.bool x)/\ Hid (LwL w W' b d ps ts v cs):=by
 refine(inside_any d ps ts i j v W h.out.law).mono ?_;rintro e w' ⟨rfl,hb⟩;exact⟨by rw[hx],h.out.step hb⟩
end
section
open Go.RowKit
theorem fo_same {f g:Fo}(h1:f.op=g.op)(h2:f.name=g.name)(h3:f.cmp=g.cmp)(h4:f.n=g.n)(h5:f.kids=g.kids):f=g:=by
 obtain⟨o,nm,c,n,ks⟩:=f;obtain⟨o',nm',c',n',ks'⟩:=g;simp only[Fo.op,Fo.name,Fo.cmp,Fo.n,Fo.kids]at h1 h2 h3 h4 h5;subst h1 h2 h3 h4 h5
 rfl
theorem take_next {α:Type}{x y:List α}{k:Nat}(h:x.take k=y.take k)(h1:k<x.length)(h2:k<y.length)(e:x[k]=y[k]):x.take (k+1)=y.take (k+1):=by
 rw[List.take_succ_eq_append_getElem h1,List.take_succ_eq_append_getElem h2,h,e]
theorem kid_size {f p:Fo}(h:p∈f.kids):p.size<f.size:=by
 obtain⟨i,hi,rfl⟩:=List.mem_iff_getElem.1 h;obtain⟨o,nm,c,n,ks⟩:=f;have:=Fo.size_get ks i hi
 show(ks[i]'hi).size<_
 rw[Fo.size];omega
def SmP (f g:Fo)(w:World):Ending->World->Prop:=fun e w'=>∃b,e=.returned (.bool b)/\ (b=true->f=g)/\ Below w.heap.size w w'
theorem eqFo_any (x y:List Fo)(hc:∀p∈x,∀(q:Fo) (v u:Value) (w:World),p.In w w.heap.size v->q.In w w.heap.size u->Calls Tryz.prog 25 #[v,u] w (SmP p q w))
  (a1 a2:Option Addr) (c1 c2:Nat) (w:World) (l2:x.length<=maxLen) (_:y.length<=maxLen) (hx:x≠[]->∃b off,a1=some ⟨b,off,none⟩/\ b<w.heap.size/\ Fo.InL w w.heap.size x b off) (hy:y≠[]->∃b off,a2=some ⟨b,off,none⟩/\ b<w.heap.size/\ Fo.InL w w.heap.size y b off):
  Calls Tryz.prog 38 #[.slice a1 x.length c1,.slice a2 y.length c2,.func (.func 25) #[] #[]] w fun e w'=>∃b,e=.returned (.bool b)/\ (b=true->x=y)/\ Below w.heap.size w w':=by
 unfold maxLen at l2;have HX:=Lib.hid hx;have HY:=Lib.hid hy;have HC:=Lib.hid hc;clear hx hy hc;by_cases hl:x.length=y.length
 ·have e1:((x.length:Int) !=(y.length:Int))=false:=by simp[hl]
  have HL:Hid (x.length=y.length):=hl;clear hl;go_enter Tryz.func38,Tryz.ntmps38;go_wp2
  go_loopw [17] (fun iv wr=>∃k:Nat,k<=x.length/\ iv=.int .i64 k/\ Hid (x.take k=y.take k)/\ Hid (Below w.heap.size w wr)) (fun iv _=>x.length-(intOf iv).toNat)
  case atStart=>exact⟨0,by omega,rfl,rfl,Below.refl _ _⟩
  case round=>
   obtain⟨k,hk,rfl,hT,hb⟩:=hrel;by_cases hlt:k<x.length
   ·have hlt2:k<y.length:=by have:=HL.out;omega
    obtain⟨b,off,rfl,hbB,hL⟩:=HX.out (by intro e;rw[e]at hlt;cases hlt);obtain⟨b',off',rfl,hbB',hL'⟩:=HY.out (by intro e;rw[e]at hlt2;cases hlt2);have hs:=hb.out.size;obtain⟨ka,kc,g0,g1,g2,g3,g4,gk⟩:=Fo.InL.get x off k hlt (Fo.InL.below hb.out hbB x off hL);obtain⟨ja,jc,h0,h1,h2,h3,h4,hk2⟩:=Fo.InL.get y off' k hlt2 (Fo.InL.below hb.out hbB' y off' hL');have HN:=Lib.hid (fun e=>take_next hT.out hlt hlt2 e);have HM:Hid (x[k]∈x):=List.getElem_mem hlt;generalize x[k]=p at*
    generalize y[k]=q at*
    have hb1:Below wr.heap.size wr (wr.alloc (.cells #[.int .i64 p.op,.string p.name,.int .i64 p.cmp,.int .i64 p.n,.slice ka p.kids.length kc] 45)):=(Below.refl _ _).alloc (Nat.le_refl _) _;have r0:=(hb1.cell (p:=⟨b',off'+k*5,none⟩) (by show b'<wr.heap.size;omega)).trans h0;have r1:=(hb1.cell (p:=⟨b',off'+k*5+1,none⟩) (by show b'<wr.heap.size;omega)).trans h1;have r2:=(hb1.cell (p:=⟨b',off'+k*5+2,none⟩) (by show b'<wr.heap.size;omega)).trans h2;have r3:=(hb1.cell (p:=⟨b',off'+k*5+3,none⟩) (by show b'<wr.heap.size;omega)).trans h3;have r4:=(hb1.cell (p:=⟨b',off'+k*5+4,none⟩) (by show b'<wr.heap.size;omega)).trans h4;have hb2:Below wr.heap.size wr ((wr.alloc (.cells #[.int .i64 p.op,.string p.name,.int .i64 p.cmp,.int .i64 p.n,.slice ka p.kids.length kc] 45)).alloc (.cells #[.int .i64 q.op,.string q.name,.int .i64 q.cmp,.int .i64 q.n,.slice ja q.kids.length jc] 45)):=hb1.alloc (by simp) _;have HC2:=Lib.hid (HC.out p HM.out q _ _ _ (Fo.In.mono (by simp;omega) _ _ (Fo.In.below (hb2.mono hs) _ _ gk)) (Fo.In.mono (by simp;omega) _ _ (Fo.In.below (hb2.mono hs) _ _ hk2)));have HB2:=Lib.hid hb2;unfold SmP at HC2;clear gk hk2 hb1 hb2 hT;go_wp2_with (go_at_call 25;refine HC2.out.mono ?_;rintro e w3 ⟨bb,rfl,hbb,hb3⟩;have HBB:=Lib.hid hbb;have HB3:=Lib.hid ((hb.out.trans (HB2.out.mono hs)).trans (hb3.mono (by simp;omega)));clear hbb hb3;cases bb)
    ·go_ret
     exact⟨false,rfl,fun h=>(by cases h),HB3.out⟩
    ·go_roundw
     case rel=>exact⟨k+1,by omega,by go_num,HN.out (HBB.out trivial),HB3⟩
     case measure=>simp[intOf];omega
   ·have HE:Hid (x=y):=by
     have h:=hT.out
     rwa[List.take_of_length_le (by omega),List.take_of_length_le (by have:=HL.out;omega)]at h
    clear hT;go_wp2;go_ret;exact⟨true,rfl,fun _=>HE.out,hb.out⟩
 ·have e1:((x.length:Int) !=(y.length:Int))=true:=by rw[bne_iff_ne];omega
  clear hl;go_enter Tryz.func38,Tryz.ntmps38;go_wp2;go_ret;exact⟨false,rfl,fun h=>(by cases h),Below.refl _ _⟩
theorem sameFo_any :∀(n:Nat) (f:Fo),f.size<=n->∀(g:Fo) (v u:Value) (w:World),f.In w w.heap.size v->g.In w w.heap.size u->Calls Tryz.prog 25 #[v,u] w (SmP f g w):=by
 intro n
 induction n with
 | zero=>intro f hf;have:=f.size_pos;omega
 | succ n ih=>
  intro f hf g v u w hv hu;have hv0:=hv;have hu0:=hu;obtain⟨a1,c1,rfl⟩:=hv.shape;obtain⟨a2,c2,rfl⟩:=hu.shape
  have hk:f.kids.length<=maxLen/\ (f.kids≠[]->∃b off,a1=some ⟨b,off,none⟩/\ b<w.heap.size/\ Fo.InL w w.heap.size f.kids b off):=by
   obtain⟨op,nm,c,m,ks⟩:=f;obtain⟨ao,cap,e,q1,q2,q3,q4,q5,q6,q7⟩:=hv0;cases e
   exact⟨Nat.le_trans q5 q6,q7⟩
  have hj:g.kids.length<=maxLen/\ (g.kids≠[]->∃b off,a2=some ⟨b,off,none⟩/\ b<w.heap.size/\ Fo.InL w w.heap.size g.kids b off):=by
   obtain⟨op,nm,c,m,ks⟩:=g;obtain⟨ao,cap,e,q1,q2,q3,q4,q5,q6,q7⟩:=hu0;cases e
   exact⟨Nat.le_trans q5 q6,q7⟩
  have hb:Below w.heap.size w ((w.alloc (.cells #[.int .i64 f.op,.string f.name,.int .i64 f.cmp,.int .i64 f.n,.slice a1 f.kids.length c1] 45)).alloc (.cells #[.int .i64 g.op,.string g.name,.int .i64 g.cmp,.int .i64 g.n,.slice a2 g.kids.length c2] 45)):=((Below.refl _ _).alloc (Nat.le_refl _) _).alloc (by simp) _;have HB:=Lib.hid hb
  have HC:=Lib.hid (eqFo_any f.kids g.kids (fun p hp q v u w hp1 hq1=>ih p (by have:=kid_size hp;omega) q v u w hp1 hq1) a1 a2 c1 c2 ((w.alloc (.cells #[.int .i64 f.op,.string f.name,.int .i64 f.cmp,.int .i64 f.n,.slice a1 f.kids.length c1] 45)).alloc (.cells #[.int .i64 g.op,.string g.name,.int .i64 g.cmp,.int .i64 g.n,.slice a2 g.kids.length c2] 45)) hk.1 hj.1
   (fun hne=>by obtain⟨b,off,e,h1,h2⟩:=hk.2 hne;exact⟨b,off,e,by simp;omega,Fo.InL.mono (by simp;omega) _ _ (Fo.InL.below hb h1 _ _ h2)⟩)
   (fun hne=>by obtain⟨b,off,e,h1,h2⟩:=hj.2 hne;exact⟨b,off,e,by simp;omega,Fo.InL.mono (by simp;omega) _ _ (Fo.InL.below hb h1 _ _ h2)⟩))
  have x0:=(Blk.new w 45 #[.int .i64 f.op,.string f.name,.int .i64 f.cmp,.int .i64 f.n,.slice a1 f.kids.length c1]).alloc (.cells #[.int .i64 g.op,.string g.name,.int .i64 g.cmp,.int .i64 g.n,.slice a2 g.kids.length c2] 45);have y0:=x0.cell 0;have y1:=x0.cell 1;have y2:=x0.cell 2;have y3:=x0.cell 3;have y4:=x0.cell 4;have HF:=Lib.hid (fun h1 h2 h3 h4 h5=>fo_same (f:=f) (g:=g) h1 h2 h3 h4 h5);clear hv hu hv0 hu0 hk hj hb x0 hf ih;unfold SmP;by_cases e1:f.op=g.op
  ·have k1:(f.op==g.op)=true:=by simpa using e1
   by_cases e2:f.name=g.name
   ·have k2:(f.name.toList==g.name.toList)=true:=by simp[e2]
    by_cases e3:f.cmp=g.cmp
    ·have k3:(f.cmp==g.cmp)=true:=by simpa using e3
     by_cases e4:f.n=g.n
     ·have k4:(f.n==g.n)=true:=by simpa using e4
      have HE:=Lib.hid (fun h5=>HF.out e1 e2 e3 e4 h5);clear e1 e2 e3 e4 HF;go_enter Tryz.func25,Tryz.ntmps25;go_wp2_with (go_at_call 38;refine HC.out.mono ?_;rintro e w3 ⟨bb,rfl,hbb,hb3⟩;have HBB:=Lib.hid hbb;have HB3:=Lib.hid (HB.out.trans (hb3.mono HB.out.size));clear hbb hb3);go_ret;exact⟨bb,rfl,fun h=>HE.out (HBB.out h),HB3.out⟩
     ·have k4:(f.n==g.n)=false:=by simpa using e4
      clear e1 e2 e3 HF
      (go_enter Tryz.func25,Tryz.ntmps25;go_wp2;go_ret;exact⟨false,rfl,fun h=>(by cases h),HB.out⟩)
    ·have k3:(f.cmp==g.cmp)=false:=by simpa using e3
     clear e1 e2 HF
     (go_enter Tryz.func25,Tryz.ntmps25;go_wp2;go_ret;exact⟨false,rfl,fun h=>(by cases h),HB.out⟩)
   ·have k2:(f.name.toList==g.name.toList)=false:=by
     rw[<-eqB_eq];simpa using e2
    clear e1 HF
    (go_enter Tryz.func25,Tryz.ntmps25;go_wp2;go_ret;exact⟨false,rfl,fun h=>(by cases h),HB.out⟩)
  ·have k1:(f.op==g.op)=false:=by simpa using e1
   clear HF
   (go_enter Tryz.func25,Tryz.ntmps25;go_wp2;go_ret;exact⟨false,rfl,fun h=>(by cases h),HB.out⟩)
end
end Go.Proofs.YtmafmhlfjficmaaGreatDoor
