/- The walks of pandectref06.Few, pandectref33.Few and After. No conditions but on the number of rules. -/
import Derived.Test.YtihniipjfdenbaaGreatDoorRgPA
set_option maxRecDepth 100000
set_option maxHeartbeats 4000000
namespace Go.Proofs.YtihniipjfdenbaaGreatDoor
open Go.RowKit
theorem refEq6_any (x y:List Int)(v u:Value)(w:World)(B:Nat)(hB:B<=w.heap.size)(hx:IntsIn w B x v)(hy:IntsIn w B y u):
  Calls Tryz.prog 21 #[v,u] w fun e w'=>e=.returned (.bool (decide (x=y)))/\ Below w.heap.size w w':=by
 have HX:=Lib.hid hx;have HY:=Lib.hid hy;obtain⟨a1,c1,rfl,l1,l2,_⟩:=SlIn.shape hx;obtain⟨a2,c2,rfl,l3,l4,_⟩:=SlIn.shape hy;unfold maxLen at l2 l4;obtain⟨R,hR⟩:∃R,decide (x=y)=R:=⟨_,rfl⟩;rw[hR];clear hx hy;by_cases hl:x.length=y.length
 ·have e1:((x.length:Int) !=(y.length:Int))=false:=by simp[hl]
  have HL:Hid (x.length=y.length):=hl;have HS:Hid (R=decide (x.drop 0=y.drop 0)):=hR.symm;clear hl hR;go_enter Tryz.func21,Tryz.ntmps21;go_wp2
  go_loopw [5] (fun iv wr=>∃k:Nat,k<=x.length/\ iv=.int .i64 k/\ Hid (R=decide (x.drop k=y.drop k))/\ Hid (Below w.heap.size w wr)) (fun iv _=>x.length-(intOf iv).toNat)
  case atStart=>exact⟨0,by omega,rfl,HS,Below.refl _ _⟩
  case round=>
   obtain⟨k,hk,rfl,hRk,hb⟩:=hrel;clear HS;by_cases hlt:k<x.length
   {(have hlt2:k<y.length:=by have:=HL.out;omega);obtain⟨b,o,rfl,hbB,hc⟩:=SlIn.one HX.out k hlt;obtain⟨b',o',rfl,hbB',hc'⟩:=SlIn.one HY.out k hlt2;have q1:=(hb.out.cell (p:=⟨b,o+k,none⟩) (by show b<w.heap.size;omega)).trans hc;have q2:=(hb.out.cell (p:=⟨b',o'+k,none⟩) (by show b'<w.heap.size;omega)).trans hc';have hRR:=hRk.out;rw[eq_drop x y k hlt hlt2]at hRR;clear hc hc' hRk;generalize x[k]=p at*;generalize y[k]=q at*;have hs:=hb.out.size;cases e:(p !=q)with| true=>{have HS:=Lib.hid (show R=false by rw[hRR,decide_eq_false (by simpa using e)];rfl);clear hRR;go_wp2;go_quiet(fail);go_wp2;go_ret;exact⟨ret_bool HS.out.symm,hb.out.trans (World.drewN_below _ _ _)⟩}| false=>{(have HS:Hid (R=decide (x.drop (k+1)=y.drop (k+1))):=by show _=_;rw[hRR,decide_eq_true (by simpa using e)];rfl);clear hRR;go_wp2;go_quiet(fail);go_wp2;go_roundw;(case rel=>exact⟨k+1,by omega,by go_num,HS,hb.out.trans (World.drewN_below _ _ _)⟩);case measure=>simp[intOf];omega}}
   ·have HS:=Lib.hid (show R=true by
     have h:=hRk.out
     rw[List.drop_of_length_le (by omega),List.drop_of_length_le (by have:=HL.out;omega)]at h
     simpa using h)
    clear hRk;go_wp2;go_ret;exact⟨ret_bool HS.out.symm,hb.out⟩
 {(have e1:((x.length:Int) !=(y.length:Int))=true:=by rw[bne_iff_ne];omega);have HS:=Lib.hid (show R=false by rw[<-hR];exact decide_eq_false fun e=>hl (by rw[e]));clear hl hR;go_enter Tryz.func21,Tryz.ntmps21;go_wp2;go_ret;exact⟨ret_bool HS.out.symm,Below.refl _ _⟩}
mutual
theorem countF_bd :∀(f:Fo) (most:Int),0<=most->1<=countF f most/\ countF f most<=most+1
 | .mk _ _ _ _ ks,most,h=>by simpa[countF]using countL_bd ks most 1 (by omega) (by omega) (by omega)
theorem countL_bd :∀(ks:List Fo) (most n:Int),0<=most->1<=n->n<=most+1->1<=countL ks most n/\ countL ks most n<=most+1
 | [],most,n,_,h1,h2=>⟨h1,h2⟩
 | k::ks,most,n,h0,h1,h2=>by{unfold countL;(split);{have:=countF_bd k (most-n) (by omega);exact countL_bd ks most _ h0 (by omega) (by omega)};{exact⟨h1,h2⟩}}
end
theorem countL_drop (ks:List Fo)(k:Nat)(h:k<ks.length)(most n:Int):
  countL (ks.drop k) most n=if n<=most then countL (ks.drop (k+1)) most (n+countF ks[k] (most-n))else n:=by
 rw[List.drop_eq_getElem_cons h,countL]
theorem count_any (N:Nat):∀(f:Fo) (most:Int) (v:Value) (w:World) (B:Nat),f.size<=N->0<=most->most<=1000000->B<=w.heap.size->f.In w B v->
  Calls Tryz.prog 85 #[v,.int .i64 most] w fun e w'=>e=.returned (.int .i64 (countF f most))/\ Below w.heap.size w w':=by
 induction N with
 | zero=>intro f _ _ _ _ h;have:=f.size_pos;omega
 | succ N ih=>
 intro most' most v w B hN hm0 hm1 hB hf;obtain⟨op,nm,c,n,ks⟩:=most';obtain⟨ao,cap,rfl,h1,h2,h3,h4,h5,h6,h7⟩:=hf
 have IH:Hid (∀(f:Fo) (most:Int) (v:Value) (w:World) (B:Nat),f.size<=N->0<=most->most<=1000000->B<=w.heap.size->f.In w B v->
  Calls Tryz.prog 85 #[v,.int .i64 most] w fun e w'=>e=.returned (.int .i64 (countF f most))/\ Below w.heap.size w w'):=ih
 clear ih h1 h2 h3 h4;unfold maxLen at h6;have HC:Hid (countL ks most 1=countF (.mk op nm c n ks) most):=by rw[countF];rfl
 generalize countF (.mk op nm c n ks) most=R at*
 have H7:=Lib.hid h7;clear h7;go_enter Tryz.func85,Tryz.ntmps85;go_wp2
 go_loopw [5,6] (fun n i wr=>∃(k:Nat) (m:Int),k<=ks.length/\ i=.int .i64 k/\ n=.int .i64 m/\ 1<=m/\ m<=most+1/\ Below w.heap.size w wr/\
  wr.cell? ⟨w.heap.size,4,none⟩=some (.slice ao ks.length cap)/\ w.heap.size<wr.heap.size/\ Hid (countL (ks.drop k) most m=R)) (fun n i _=>ks.length-(intOf i).toNat)
 case atStart=>(exact⟨0,1,by omega,rfl,rfl,by omega,by omega,(Below.refl _ _).alloc (Nat.le_refl _) _,by go_simp,by simp,by simpa[Hid]using HC⟩)
 case round=>
  obtain⟨k,m,hk,rfl,rfl,hm1,hm2,hb,hc4,hsz,hR⟩:=hrel;by_cases hlt:k<ks.length
  {by_cases hmm:m<=most;{obtain⟨b,off,rfl,hbB,hL⟩:=H7.out (by intro h;simp[h]at hlt);obtain⟨ka,kc,g0,g1,g2,g3,g4,gk⟩:=Fo.InL.get ks off k hlt (Fo.InL.below (hb.mono hB) hbB ks off hL);have hbd:=countF_bd ks[k] (most-m) (by omega);have hsk:=Fo.size_get ks k hlt;rw[Fo.size]at hN;have GK:=Lib.hid gk;clear gk hL H7 HC;rw[Hid,countL_drop ks k hlt,if_pos hmm]at hR;have HR:=Lib.hid hR;clear hR;go_wp2_with (go_at_call 85;refine(IH.out _ _ _ _ B (by omega) (by omega) (by omega) (by omega) GK.out).mono ?_;rintro e w' ⟨rfl,hb'⟩);go_roundw;(case rel=>(exact⟨k+1,m+countF ks[k] (most-m),by omega,by go_num,rfl,by omega,by omega,hb.trans (hb'.mono (by omega)),(hb'.cell (by simp;omega)).trans hc4,by have:=hb'.size;omega,HR⟩));case measure=>simp[intOf];omega};{rw[Hid,countL_drop ks k hlt,if_neg hmm]at hR;have HR:=Lib.hid hR;(have hd:decide (m<=most)=false:=by simpa using hmm);clear hR H7 HC hmm;go_wp2;go_ret;exact⟨ret_int HR.out,hb⟩}}
  ·have hR':m=R:=by
    have:k=ks.length:=by omega
    subst this
    simpa[Hid,countL]using hR
   have HR:=Lib.hid hR';clear hR' hR H7 HC;go_wp2;go_ret;exact⟨ret_int HR.out,hb⟩
def smallF (f:Fo)(most:Int):Bool:=decide (countF f most<=most)
theorem small_any (f:Fo)(most:Int)(v:Value)(w:World)(B:Nat)(hm0:0<=most)(hm1:most<=1000000)(hB:B<=w.heap.size)(hf:f.In w B v):
  Calls Tryz.prog 55 #[v,.int .i64 most] w fun e w'=>e=.returned (.bool (smallF f most))/\ Below w.heap.size w w':=by
 obtain⟨ao,cap,rfl⟩:=hf.shape;have HF:=Lib.hid hf;clear hf;go_enter Tryz.func55,Tryz.ntmps55;go_wp2_with (go_at_call 85;refine(count_any f.size f most _ _ B (Nat.le_refl _) hm0 hm1 ?_ ?_).mono ?_;(simp;omega);exact Fo.In.below ((Below.refl _ _).alloc (by omega) _) _ _ HF.out;rintro e w' ⟨rfl,hb'⟩);go_ret;exact⟨rfl,((Below.refl _ _).alloc (by omega) _).trans (hb'.mono (by simp))⟩
theorem countL_ge :∀(ks:List Fo) (most n:Int),0<=most->1<=n->n<=most+1->n<=countL ks most n
 | [],most,n,_,_,_=>by rw[countL];omega
 | k::ks,most,n,h0,h1,h2=>by{rw[countL];(split);{have:=countF_bd k (most-n) (by omega);have:=countL_ge ks most (n+countF k (most-n)) h0 (by omega) (by omega);omega};{omega}}
mutual
theorem countF_eq :∀(f:Fo) (most:Int),0<=most->countF f most<=most->countF f most=(f.size:Int)
 | .mk _ _ _ _ ks,most,h0,h=>by{rw[countF]at h⊢;rw[countL_eq ks most 1 (by omega) (by omega) (by omega) h,Fo.size];omega}
theorem countL_eq :∀(ks:List Fo) (most n:Int),0<=most->1<=n->n<=most+1->countL ks most n<=most->countL ks most n=n+(Fo.sizeL ks:Int)
 | [],most,n,_,_,_,_=>by rw[countL,Fo.sizeL];omega
 | k::ks,most,n,h0,h1,h2,h=>by{rw[countL]at h⊢;by_cases hn:n<=most;{rw[if_pos hn]at h⊢;have hb:=countF_bd k (most-n) (by omega);have hg:=countL_ge ks most (n+countF k (most-n)) (by omega) (by omega) (by omega);have hk:=countF_eq k (most-n) (by omega) (by omega);rw[countL_eq ks most (n+countF k (most-n)) h0 (by omega) (by omega) h,hk,Fo.sizeL];omega};{rw[if_neg hn]at h;omega}}
end
theorem smallF_size {f:Fo}{most:Nat}(h:smallF f most=true):f.size<=most:=by
 unfold smallF at h;have h1:=of_decide_eq_true h;have:=countF_eq f most (by omega) h1;omega
def few6 (d:List Fa):Bool:=decide (d.length<=6)&& d.all fun f=>decide (f.name.size<=100)
def fewH (x:Chg):Bool:=decide (x.id.size<=60)&& decide (x.question.size<=60)&& smallF x.cond 30
def fewC (l:List Chg)(d:List Fa):Bool:=decide (l.length<=10)&& l.all fewH&& few6 d
theorem all_stepT {α:Type}{p:α->Bool}{l:List α}{k:Nat}(h:k<l.length)(ha:(l.take k).all p=true)(hp:p l[k]=true):(l.take (k+1)).all p=true:=by
 rw[List.take_succ_eq_append_getElem h,List.all_append,ha];simp[hp]
theorem all_stepF {α:Type}{p:α->Bool}{l:List α}{k:Nat}(h:k<l.length)(hp:p l[k]=false):l.all p=false:=by
 rw[Bool.eq_false_iff];intro e;have:=List.all_eq_true.1 e l[k] (List.getElem_mem h);rw[hp]at this;cases this
structure SizC (l : List Chg) (d : List Fa) : Prop where
 len:l.length<=10
 dom:d.length<=6
 size:∀x∈l,x.cond.size<=1000000
theorem siz_fewC {l:List Chg}{d:List Fa}(h:fewC l d=true):SizC l d:=by
 unfold fewC few6 at h;simp only[Bool.and_eq_true,decide_eq_true_eq,List.all_eq_true]at h;obtain⟨⟨h1,h2⟩,h3,_⟩:=h;refine⟨h1,h3,fun x hx=>?_⟩;have:=h2 x hx;unfold fewH at this;simp only[Bool.and_eq_true,decide_eq_true_eq]at this;exact Nat.le_trans (smallF_size (most:=30) this.2) (by decide)
theorem few6_any (d:List Fa)(u:Value)(w:World)(B:Nat)(hB:B<=w.heap.size)(hd:DomIn w B d u):
  Calls Tryz.prog 56 #[u,.int .i64 6] w fun e w'=>e=.returned (.bool (few6 d))/\ Below w.heap.size w w':=by
 obtain⟨u0,rfl,hd⟩:=hd;obtain⟨ad,cd,rfl,d1,d2,_⟩:=SlIn.shape hd;unfold maxLen at d2;have HP:=Lib.hid hd;have HB0:Hid (Below w.heap.size w (w.alloc (.cells #[.slice ad d.length cd] 25))):=(Below.refl _ _).alloc (Nat.le_refl _) _;have HK0:=Lib.hid (Blk.new w 25 #[.slice ad d.length cd]);obtain⟨R,hR⟩:∃R,few6 d=R:=⟨_,rfl⟩;rw[hR];have HR:Hid (R=(decide (d.length<=6)&& d.all fun f=>decide (f.name.size<=100))):=hR.symm;clear hd hR;go_enter Tryz.func56,Tryz.ntmps56;go_wp2
 go_loopw [5] (fun iv wr=>∃k:Nat,k<=d.length/\ k<=6/\ iv=.int .i64 k/\ Hid ((d.take k).all (fun f=>decide (f.name.size<=100))=true)/\ Hid (Below w.heap.size w wr)/\ Hid (Blk wr w.heap.size 25 #[.slice ad d.length cd])) (fun iv _=>d.length-(intOf iv).toNat)
 case atStart=>exact⟨0,Nat.zero_le _,Nat.zero_le _,rfl,rfl,HB0,HK0⟩
 case round=>(obtain⟨k,hk,hk6,rfl,HA,HB,HK⟩:=hrel;have y0:=HK.out.cell 0;clear HB0 HK0;by_cases hlt:k<d.length;{by_cases h6:k<6;{have g6:decide ((k:Int)<6)=true:=decide_eq_true (by omega);(have HN:Hid (decide (d[k].name.size<=100)=true->(d.take (k+1)).all (fun f=>decide (f.name.size<=100))=true):=fun h=>all_stepT hlt HA.out h);(have HF:Hid (decide (d[k].name.size<=100)=false->R=false):=fun h=>by rw[HR.out,all_stepF (p:=fun f:Fa=>decide (f.name.size<=100)) hlt h];simp);obtain⟨b,off,rfl,hbB,hr⟩:=SlIn.at (HP.out.below FaR.kept (HB.out.mono hB)) k hlt;have c0:=hr.1;generalize d[k]=f at*;clear hr;by_cases hs:f.name.size<=100;{have gs:decide ((100:Int)<(f.name.size:Int))=false:=decide_eq_false (by omega);have HN2:=Lib.hid (HN.out (decide_eq_true hs));clear HN HF;go_wp2;go_roundw;(case rel=>exact⟨k+1,by omega,by omega,by go_num,HN2,HB,HK⟩);case measure=>simp[intOf];omega};{have gs:decide ((100:Int)<(f.name.size:Int))=true:=decide_eq_true (by omega);have HF2:=Lib.hid (HF.out (decide_eq_false hs));clear HN HF;go_wp2;go_ret;exact⟨ret_bool HF2.out.symm,HB.out⟩}};{have g6:decide ((k:Int)<6)=false:=decide_eq_false (by omega);have g7:decide ((d.length:Int)<=6)=false:=decide_eq_false (by omega);(have HF2:Hid (R=false):=by show _=_;rw[HR.out,decide_eq_false (by omega)];rfl);go_wp2;go_ret;exact⟨ret_bool HF2.out.symm,HB.out⟩}};{have g7:decide ((d.length:Int)<=6)=true:=decide_eq_true (by omega);have HF2:Hid (R=true):=by{have:=HA.out;rw[List.take_of_length_le (by omega)]at this;show _=_;rw[HR.out,decide_eq_true (by omega),this];rfl};go_wp2;go_ret;exact⟨ret_bool HF2.out.symm,HB.out⟩})
theorem few33_any (l:List Chg)(d:List Fa)(v u:Value)(w:World)(hl:SlIn ChR 9 w w.heap.size l v)(hd:DomIn w w.heap.size d u):
  Calls Tryz.prog 23 #[v,u] w fun e w'=>e=.returned (.bool (fewC l d))/\ Below w.heap.size w w':=by
 have HD:=Lib.hid hd;obtain⟨u0,rfl,hd⟩:=hd;obtain⟨ad,cd,rfl,d1,d2,_⟩:=SlIn.shape hd;obtain⟨al,cl,rfl,l1,l2,_⟩:=SlIn.shape hl;unfold maxLen at d2 l2;have HP:=Lib.hid hl;have HB0:Hid (Below w.heap.size w (w.alloc (.cells #[.slice ad d.length cd] 25))):=(Below.refl _ _).alloc (Nat.le_refl _) _;have HK0:=Lib.hid (Blk.new w 25 #[.slice ad d.length cd]);obtain⟨R,hR⟩:∃R,fewC l d=R:=⟨_,rfl⟩;rw[hR];have HR:Hid (R=(decide (l.length<=10)&& l.all fewH&& few6 d)):=hR.symm;clear hd hl hR;go_enter Tryz.func23,Tryz.ntmps23;go_wp2
 go_loopw [5] (fun iv wr=>∃k:Nat,k<=l.length/\ k<=10/\ iv=.int .i64 k/\ Hid ((l.take k).all fewH=true)/\ Hid (Below w.heap.size w wr)/\ Hid (Blk wr w.heap.size 25 #[.slice ad d.length cd])) (fun iv _=>l.length-(intOf iv).toNat)
 case atStart=>exact⟨0,Nat.zero_le _,Nat.zero_le _,rfl,rfl,HB0,HK0⟩
 case round=>(obtain⟨k,hk,hk6,rfl,HA,HB,HK⟩:=hrel;have y0:=HK.out.cell 0;clear HB0 HK0;by_cases hlt:k<l.length;{by_cases h6:k<10;{have g6:decide ((k:Int)<10)=true:=decide_eq_true (by omega);(have HN:Hid (fewH l[k]=true->(l.take (k+1)).all fewH=true):=fun h=>all_stepT hlt HA.out h);(have HF:Hid (fewH l[k]=false->R=false):=fun h=>by rw[HR.out,all_stepF hlt h];simp);obtain⟨b,off,rfl,hbB,ak,ck,hr,hf,_⟩:=SlIn.at (HP.out.below ChR.kept HB.out) k hlt;generalize l[k]=x at*;have c0:=hr 0 _ rfl;have c1:=hr 1 _ rfl;have c2:=hr 2 _ rfl;have c3:=hr 3 _ rfl;have c4:=hr 4 _ rfl;have c5:=hr 5 _ rfl;have c6:=hr 6 _ rfl;simp only[Nat.add_zero]at c0;have HSM:Hid (Calls Tryz.prog 55 #[condC x ak ck,.int .i64 30] wr fun e w'=>e=.returned (.bool (smallF x.cond 30))/\ Below wr.heap.size wr w'):=small_any x.cond 30 _ wr wr.heap.size (by decide) (by decide) (Nat.le_refl _) (Fo.In.mono HB.out.size _ _ hf);clear hr hf;by_cases hs:x.id.size<=60;{have gs:decide ((60:Int)<(x.id.size:Int))=false:=decide_eq_false (by omega);by_cases hq:x.question.size<=60;{have gq:decide ((60:Int)<(x.question.size:Int))=false:=decide_eq_false (by omega);cases hm:smallF x.cond 30 with| true=>{rw[hm]at HSM;have HN2:=Lib.hid (HN.out (by unfold fewH;simp[hs,hq,hm]));clear HN HF;go_wp2_with (go_at_call 55;refine HSM.out.mono ?_;rintro e w2 ⟨rfl,hb2⟩);have HB2:=Lib.hid (HB.out.trans (hb2.mono HB.out.size));have HK2:=Lib.hid (HK.out.below hb2);go_roundw;(case rel=>exact⟨k+1,by omega,by omega,by go_num,HN2,HB2,HK2⟩);case measure=>simp[intOf];omega}| false=>{rw[hm]at HSM;have HF2:=Lib.hid (HF.out (by unfold fewH;simp[hm]));clear HN HF;go_wp2_with (go_at_call 55;refine HSM.out.mono ?_;rintro e w2 ⟨rfl,hb2⟩);go_ret;exact⟨ret_bool HF2.out.symm,HB.out.trans (hb2.mono HB.out.size)⟩}};{have gq:decide ((60:Int)<(x.question.size:Int))=true:=decide_eq_true (by omega);have HF2:=Lib.hid (HF.out (by unfold fewH;simp[hq]));clear HN HF;go_wp2;go_ret;exact⟨ret_bool HF2.out.symm,HB.out⟩}};{have gs:decide ((60:Int)<(x.id.size:Int))=true:=decide_eq_true (by omega);have HF2:=Lib.hid (HF.out (by unfold fewH;simp[hs]));clear HN HF;go_wp2;go_ret;exact⟨ret_bool HF2.out.symm,HB.out⟩}};{have g6:decide ((k:Int)<10)=false:=decide_eq_false (by omega);have g7:decide ((l.length:Int)<=10)=false:=decide_eq_false (by omega);(have HF2:Hid (R=false):=by show _=_;rw[HR.out,decide_eq_false (by omega)];rfl);go_wp2;go_ret;exact⟨ret_bool HF2.out.symm,HB.out⟩}};{have g7:decide ((l.length:Int)<=10)=true:=decide_eq_true (by omega);have HF2:Hid (R=few6 d):=by{have:=HA.out;rw[List.take_of_length_le (by omega)]at this;show _=_;rw[HR.out,decide_eq_true (by omega),this];rfl};have HD6:=Lib.hid (few6_any d _ wr wr.heap.size (Nat.le_refl _) ((HD.out.below HB.out).mono HB.out.size));go_wp2_with (go_at_call 56;refine HD6.out.mono ?_;rintro e w2 ⟨rfl,hb2⟩);go_ret;exact⟨ret_bool HF2.out.symm,HB.out.trans (hb2.mono HB.out.size)⟩})
theorem fewL_any (l:List Chg)(d:List Fa)(v u:Value)(w:World)(hl:SlIn ChR 9 w w.heap.size l v)(hd:DomIn w w.heap.size d u):
  Calls Tryz.prog 10 #[v,u] w fun e w'=>e=.returned (.bool (fewC l d))/\ Below w.heap.size w w':=by
 have HD:=Lib.hid hd;obtain⟨u0,rfl,hd⟩:=hd;obtain⟨ad,cd,rfl,d1,d2,_⟩:=SlIn.shape hd;obtain⟨al,cl,rfl,l1,l2,_⟩:=SlIn.shape hl;have hb:Below w.heap.size w (w.alloc (.cells #[.slice ad d.length cd] 25)):=(Below.refl _ _).alloc (Nat.le_refl _) _;have HF:=Lib.hid (few33_any l d _ _ (w.alloc (.cells #[.slice ad d.length cd] 25)) (SlIn.mono ChR.mono hb.size (hl.below ChR.kept hb)) ((HD.out.below hb).mono hb.size));have HB:=Lib.hid hb;have x0:=(Blk.new w 25 #[.slice ad d.length cd]).cell 0;obtain⟨R,hR⟩:∃R,fewC l d=R:=⟨_,rfl⟩;rw[hR]at HF⊢;clear hl hd hb hR;go_enter Tryz.func10,Tryz.ntmps10;go_wp2_with (go_at_call 23;refine HF.out.mono ?_;rintro e w2 ⟨rfl,hb2⟩);go_ret;exact⟨rfl,HB.out.trans (hb2.mono HB.out.size)⟩
end Go.Proofs.YtihniipjfdenbaaGreatDoor
