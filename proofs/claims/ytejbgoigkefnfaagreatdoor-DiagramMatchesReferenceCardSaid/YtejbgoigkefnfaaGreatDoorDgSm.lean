/- The plain law of DiagramMeans: what Build answers at a small formula means the formula. No program. -/
import Derived.Test.YtejbgoigkefnfaaGreatDoorAl
import Derived.Test.YtejbgoigkefnfaaGreatDoorDgHead
set_option maxRecDepth 100000
set_option maxHeartbeats 4000000
namespace Go.Proofs.YtejbgoigkefnfaaGreatDoor
open Go.RowKit
mutual
theorem Rr :∀(f:Fo) (most:Int),0<=most->1<=Si f most/\ Si f most<=most+1
 | .mk _ _ _ _ ks,most,h=>by simpa[Si]using XB ks most 1 ia ia ia
theorem XB :∀(ks:List Fo) (most n:Int),0<=most->1<=n->n<=most+1->1<=Ti ks most n/\ Ti ks most n<=most+1
 | [],most,n,_,h1,h2=>⟨h1,h2⟩
 | k::ks,most,n,h0,h1,h2=>by{unfold Ti;(split);{have:=Rr k (most-n) ia;exact XB ks most _ h0 ia ia};{exact⟨h1,h2⟩}}
end
theorem mw (ks:List Fo)(k:Nat)(h:k<ks.length)(most n:Int):
  Ti (ks.drop k) most n=if n<=most then Ti (ks.drop (k+1)) most (n+Si ks[k] (most-n))else n:=by
 rw[Qb h,Ti]
theorem NL (N:Nat):∀(f:Fo) (most:Int) (v:Value) (w:World) (B:Nat),f.size<=N->0<=most->most<=1000000->B<=w.heap.size->f.In w B v->
  Calls Tryz.prog 85 #[v,.int .i64 most] w fun e w'=>e=.returned (.int .i64 (Si f most))/\ Below w.heap.size w w':=by
 induction N with
 | zero=>intro f _ _ _ _ h;have:=f.size_pos;omega
 | succ N ih=>
 intro G4 most v w B hN fB aF hB hf;obtain⟨op,nm,c,n,ks⟩:=G4;obtain⟨ao,cap,rfl,h1,h2,h3,h4,h5,h6,h7⟩:=hf
 have IH:Hid (∀(f:Fo) (most:Int) (v:Value) (w:World) (B:Nat),f.size<=N->0<=most->most<=1000000->B<=w.heap.size->f.In w B v->
  Calls Tryz.prog 85 #[v,.int .i64 most] w fun e w'=>e=.returned (.int .i64 (Si f most))/\ Below w.heap.size w w'):=ih
 clear ih h1 h2 h3 h4;unfold maxLen at h6;have HC:Hid (Ti ks most 1=Si (.mk op nm c n ks) most):=by rw[Si];rfl
 generalize Si (.mk op nm c n ks) most=R at*
 have H7:=da h7;clear h7;go_enter Tryz.func85,Tryz.ntmps85;go_wp2
 go_loopw [5,6] (fun n i wr=>∃(k:Nat) (m:Int),k<=ks.length/\ i=.int .i64 k/\ n=.int .i64 m/\ 1<=m/\ m<=most+1/\ Below w.heap.size w wr/\
  wr.cell? ⟨w.heap.size,4,none⟩=some (.slice ao ks.length cap)/\ w.heap.size<wr.heap.size/\ Hid (Ti (ks.drop k) most m=R)) (fun n i _=>ks.length-(intOf i).toNat)
 case atStart=>(exact⟨0,1,ia,rfl,rfl,ia,ia,(za _ _).alloc (ja _) _,by go_simp,la,by simpa[Hid]using HC⟩)
 case round=>
  obtain⟨k,m,hk,rfl,rfl,aF,hm2,hb,F9,hsz,hR⟩:=hrel;by_cases hlt:k<ks.length
  {by_cases PR:m<=most;{obtain⟨b,off,rfl,Rj,hL⟩:=H7.out (by intro h;simp[h]at hlt);obtain⟨ka,kc,g0,g1,g2,g3,g4,gk⟩:=Fo.Qk.get ks off k hlt (Fo.Qk.below (hb.mono hB) Rj ks off hL);have hbd:=Rr ks[k] (most-m) ia;have hsk:=Fo.fg ks k hlt;rw[Fo.size]at hN;have GK:=da gk;clear gk hL H7 HC;rw[Hid,mw ks k hlt,if_pos PR]at hR;have HR:=da hR;clear hR;go_wp2_with (go_at_call 85;refine(IH.out _ _ _ _ B ia ia ia ia GK.out).mono ?_;rintro e w' ⟨rfl,hb'⟩);go_roundw;(case rel=>(exact⟨k+1,m+Si ks[k] (most-m),ia,by go_num,rfl,ia,ia,hb.trans (hb'.mono ia),(hb'.cell (by simp;omega)).trans F9,by have:=hb'.size;omega,HR⟩));case measure=>simp[intOf];omega};{rw[Hid,mw ks k hlt,Aa PR]at hR;have HR:=da hR;(have hd:decide (m<=most)=false:=by simpa using PR);clear hR H7 HC PR;go_wp2;go_ret;exact⟨ke HR.out,hb⟩}}
  ·have hR':m=R:=by
    have:k=ks.length:=by omega
    subst this
    simpa[Hid,Ti]using hR
   have HR:=da hR';clear hR' hR H7 HC;go_wp2;go_ret;exact⟨ke HR.out,hb⟩
def pz (f:Fo)(most:Int):Bool:=decide (Si f most<=most)
theorem OL (f:Fo)(most:Int)(v:Value)(w:World)(B:Nat)(fB:0<=most)(aF:most<=1000000)(hB:B<=w.heap.size)(hf:f.In w B v):
  Calls Tryz.prog 36 #[v,.int .i64 most] w fun e w'=>e=.returned (.bool (pz f most))/\ Below w.heap.size w w':=by
 obtain⟨ao,cap,rfl⟩:=hf.shape;have HF:=da hf;clear hf;go_enter Tryz.func36,Tryz.ntmps36;go_wp2_with (go_at_call 85;refine(NL f.size f most _ _ B (ja _) fB aF ?_ ?_).mono ?_;(simp;omega);exact Fo.In.below ((za _ _).alloc ia _) _ _ HF.out;rintro e w' ⟨rfl,hb'⟩);go_ret;exact⟨rfl,((za _ _).alloc ia _).trans (hb'.mono la)⟩
theorem YB :∀(ks:List Fo) (most n:Int),0<=most->1<=n->n<=most+1->n<=Ti ks most n
 | [],most,n,_,_,_=>by rw[Ti];omega
 | k::ks,most,n,h0,h1,h2=>by{rw[Ti];(split);{have:=Rr k (most-n) ia;have:=YB ks most (n+Si k (most-n)) h0 ia ia;omega};{omega}}
mutual
theorem ZB :∀(f:Fo) (most:Int),0<=most->Si f most<=most->Si f most=(f.size:Int)
 | .mk _ _ _ _ ks,most,h0,h=>by{rw[Si]at h⊢;rw[aC ks most 1 ia ia ia h,Fo.size];omega}
theorem aC :∀(ks:List Fo) (most n:Int),0<=most->1<=n->n<=most+1->Ti ks most n<=most->Ti ks most n=n+(Fo.Tc ks:Int)
 | [],most,n,_,_,_,_=>by rw[Ti,Fo.Tc];omega
 | k::ks,most,n,h0,h1,h2,h=>by{rw[Ti]at h⊢;by_cases hn:n<=most;{rw[if_pos hn]at h⊢;have hb:=Rr k (most-n) ia;have hg:=YB ks most (n+Si k (most-n)) ia ia ia;have hk:=ZB k (most-n) ia ia;rw[aC ks most (n+Si k (most-n)) h0 ia ia h,hk,Fo.Tc];omega};{rw[Aa hn]at h;omega}}
end
theorem Vq {f:Fo}{most:Nat}(h:pz f most=true):f.size<=most:=by
 unfold pz at h;have h1:=Fc h;have:=ZB f most ia h1;omega
def Gi (f:Fo)(d:List Fa):Bool:=pz f 250&& decide ((d.length:Int)<=70)&& decide (Hk f 400 d 1<=400)
theorem ZH (f:Fo)(d:List Fa)(v u:Value)(w:World)(B:Nat)(hB:B<=w.heap.size)(hf:f.In w B v)(hd:bf w B d u):
  Calls Tryz.prog 11 #[v,u] w fun e w'=>e=.returned (.bool (Gi f d))/\ Below w.heap.size w w':=by
 obtain⟨ao,cap,rfl⟩:=hf.shape;have HD:=da hd;have HF:=da hf;obtain⟨du,rfl,uq⟩:=hd;obtain⟨ad,cd,rfl,d1,d2,_⟩:=Xa.shape uq;unfold maxLen at d2;have ud:Below w.heap.size w ((w.alloc (.cells #[.int .i64 f.op,.string f.name,.int .i64 f.cmp,.int .i64 f.n,.slice ao f.kids.length cap] 24)).alloc (.cells #[.slice ad d.length cd] 27)):=((za _ _).alloc (ja _) _).alloc la _;have Be:Hid (Bb ((w.alloc (.cells #[.int .i64 f.op,.string f.name,.int .i64 f.cmp,.int .i64 f.n,.slice ao f.kids.length cap] 24)).alloc (.cells #[.slice ad d.length cd] 27)) w.heap.size 24 #[.int .i64 f.op,.string f.name,.int .i64 f.cmp,.int .i64 f.n,.slice ao f.kids.length cap]):=(Bb.new w 24 #[.int .i64 f.op,.string f.name,.int .i64 f.cmp,.int .i64 f.n,.slice ao f.kids.length cap]).alloc _;have Gf:Hid (Bb ((w.alloc (.cells #[.int .i64 f.op,.string f.name,.int .i64 f.cmp,.int .i64 f.n,.slice ao f.kids.length cap] 24)).alloc (.cells #[.slice ad d.length cd] 27)) (w.heap.size+1) 27 #[.slice ad d.length cd]):=Zl w _ _ _;have Vd:=da ud;have HS:=da (OL f 250 _ ((w.alloc (.cells #[.int .i64 f.op,.string f.name,.int .i64 f.cmp,.int .i64 f.n,.slice ao f.kids.length cap] 24)).alloc (.cells #[.slice ad d.length cd] 27)) B ia ia (by simp;omega) (Fo.In.below (ud.mono hB) _ _ HF.out));have x0:=Be.out.cell 0;have x1:=Be.out.cell 1;have x2:=Be.out.cell 2;have x3:=Be.out.cell 3;have x4:=Be.out.cell 4;clear hf uq ud;go_enter Tryz.func11,Tryz.ntmps11;cases hs:pz f 250 with| false=>{rw[hs]at HS;go_wp2_with (go_at_call 36;refine HS.out.mono ?_;rintro e w1 ⟨rfl,Ff⟩;have Ve:=da Ff;clear Ff;have x0:=(Be.out.below Ve.out).cell 0;have x1:=(Be.out.below Ve.out).cell 1;have x2:=(Be.out.below Ve.out).cell 2;have x3:=(Be.out.below Ve.out).cell 3;have x4:=(Be.out.below Ve.out).cell 4;have y0:=(Gf.out.below Ve.out).cell 0);refine Qa (by simp[results,Tryz.results11,go_sem];try rfl) rfl ?_;exact⟨by unfold Gi;rw[hs];rfl,Vd.out.trans (Ve.out.mono (by simp;omega))⟩}| true=>{rw[hs]at HS;have hsz:=Vq (most:=250) hs;(have HC:Hid (∀w',Below w.heap.size w w'->Calls Tryz.prog 37 #[.agg #[.int .i64 f.op,.string f.name,.int .i64 f.cmp,.int .i64 f.n,.slice ao f.kids.length cap],.agg #[.slice ad d.length cd],.int .i64 400] w' fun e w''=>e=.returned (.int .i64 (Hk f 400 d 1))/\ Below w'.heap.size w' w''):=fun w' hb=>nI f d 400 _ _ w' B (by have:=hb.size;omega) (Fo.In.below (hb.mono hB) _ _ HF.out) (HD.out.below (hb.mono hB)) ia ia);by_cases h7:(d.length:Int)<=70;{by_cases h4:Hk f 400 d 1<=400;{(have hR:Gi f d=true:=by unfold Gi;rw[hs];simp[h7,h4]);go_wp2_with (first | (go_at_call 36;refine HS.out.mono ?_;rintro e w1 ⟨rfl,Ff⟩;have Ve:=da Ff;clear Ff;have x0:=(Be.out.below Ve.out).cell 0;have x1:=(Be.out.below Ve.out).cell 1;have x2:=(Be.out.below Ve.out).cell 2;have x3:=(Be.out.below Ve.out).cell 3;have x4:=(Be.out.below Ve.out).cell 4;have y0:=(Gf.out.below Ve.out).cell 0) | (go_at_call 37;refine(HC.out _ (Vd.out.trans (Ve.out.mono (by simp;omega)))).mono ?_;rintro e w2 ⟨rfl,ud⟩));refine Qa (by simp[results,Tryz.results11,go_sem];try rfl) rfl ?_;exact⟨by rw[hR],(Vd.out.trans (Ve.out.mono (by simp;omega))).trans (ud.mono (by have:=Ve.out.size;simp at this;omega))⟩};{(have hR:Gi f d=false:=by unfold Gi;rw[hs];simp[h7];omega);go_wp2_with (first | (go_at_call 36;refine HS.out.mono ?_;rintro e w1 ⟨rfl,Ff⟩;have Ve:=da Ff;clear Ff;have x0:=(Be.out.below Ve.out).cell 0;have x1:=(Be.out.below Ve.out).cell 1;have x2:=(Be.out.below Ve.out).cell 2;have x3:=(Be.out.below Ve.out).cell 3;have x4:=(Be.out.below Ve.out).cell 4;have y0:=(Gf.out.below Ve.out).cell 0) | (go_at_call 37;refine(HC.out _ (Vd.out.trans (Ve.out.mono (by simp;omega)))).mono ?_;rintro e w2 ⟨rfl,ud⟩));refine Qa (by simp[results,Tryz.results11,go_sem];try rfl) rfl ?_;exact⟨by first | (rw[hR];done) | rfl | (rw[hR];simp;omega) | (simp;omega),(Vd.out.trans (Ve.out.mono (by simp;omega))).trans (ud.mono (by have:=Ve.out.size;simp at this;omega))⟩}};{(have hR:Gi f d=false:=by unfold Gi;rw[hs];simp;omega);go_wp2_with (go_at_call 36;refine HS.out.mono ?_;rintro e w1 ⟨rfl,Ff⟩;have Ve:=da Ff;clear Ff;have x0:=(Be.out.below Ve.out).cell 0;have x1:=(Be.out.below Ve.out).cell 1;have x2:=(Be.out.below Ve.out).cell 2;have x3:=(Be.out.below Ve.out).cell 3;have x4:=(Be.out.below Ve.out).cell 4;have y0:=(Gf.out.below Ve.out).cell 0);refine Qa (by simp[results,Tryz.results11,go_sem];try rfl) rfl ?_;exact⟨by first | rfl | (rw[hR]),Vd.out.trans (Ve.out.mono (by simp;omega))⟩}}
theorem Pn {f:Fo}{d:List Fa}(hs:Gi f d=true)(hv:Hf d=true)(hc:Qe f d (fun _=>false)=0):Gp d f:=by
 unfold Gi at hs;simp only[ub,decide_eq_true_eq]at hs;have h:=Lq (mg hv) (zi hc) (n:=400) hs.2;exact built (mg hv) (zi hc) ia
theorem mT {d:List Fa}{t:List Dn}(h:te d t):∀n∈t,n.kids.length<=1000001/\ n.Ja.length<=1000000/\ 0<=n.fact/\ n.fact<=60/\ (∀x∈n.Ja,0<=x/\ x<=1000000)/\ ∀x∈n.kids,0<=x/\ x<=20000:=by
 intro n hn;have hd:=mg h.dom;have hf:=Sj hd h.table n hn;obtain⟨k,hk,rfl⟩:=zb hn;have hp:=h.table k hk;rw[Eb _ _ _ hk]at hp;refine⟨hf.1,hf.2,?_⟩;by_cases hz:t[k].kids=[]
 {rw[hz,(hp.leaf hz).2,(hp.leaf hz).1];simp}
 {have hin:=hp.inner hz;have hl:=hd.Fq _ hin.2.2.1;have hdl:=hd.len;refine⟨hin.2.1,by have:=hin.2.2.1;omega,fun x hx=>?_,fun x hx=>?_⟩;{have:=Tj _ _ hin.2.2.2.2.2.1 x hx;omega};{have:=hin.2.2.2.2.2.2.2 x hx;have:=h.Yw;omega}}
theorem qP {d:List Fa}{t:List Dn}(h:te d t):∀n∈t,Rs n:=fun n hn=>by
 obtain⟨h1,h2,h3,h4,h5,h6⟩:=mT h n hn;refine⟨⟨ia,ia⟩,fun x hx=>?_,fun x hx=>?_,h2,h1⟩
 {have:=h5 x hx;exact⟨ia,ia⟩}
 {have:=h6 x hx;exact⟨ia,ia⟩}
end Go.Proofs.YtejbgoigkefnfaaGreatDoor
