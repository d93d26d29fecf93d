/- The walk of given at And and Or, and of given for every formula without terms. A bound on the formula's size. -/
import Derived.Test.YtihniipjfdenbaaGreatDoorDgVC
import Derived.Test.YtihniipjfdenbaaGreatDoorDgGP
set_option maxRecDepth 100000
set_option maxHeartbeats 4000000
namespace Go.Proofs.YtihniipjfdenbaaGreatDoor
section
open Go.RowKit
abbrev kV (b:Bool):Array Value:=#[.int .i64 (if b then 1 else 2),.string nilB,.int .i64 0,.int .i64 0,.slice none 0 0]
theorem known_any (b:Bool)(W:World):Calls Tryz.prog 187 #[.bool b] W fun e W'=>e=.returned (.agg (kV b))/\ W'=W.alloc (.cells (kV b) 47):=by
 cases b with
 | true=>
  go_enter Tryz.func187,Tryz.ntmps187;go_wp2;exact bodyPost_ret (results_cell1 (v:=.agg #[.int .i64 1,.string nilB,.int .i64 0,.int .i64 0,.slice none 0 0]) rfl _ _ _ rfl (by unfold nilB;go_simp)) rfl ⟨rfl,rfl⟩
 | false=>
  go_enter Tryz.func187,Tryz.ntmps187;go_wp2;exact bodyPost_ret (results_cell1 (v:=.agg #[.int .i64 2,.string nilB,.int .i64 0,.int .i64 0,.slice none 0 0]) rfl _ _ _ rfl (by unfold nilB;go_simp)) rfl ⟨rfl,rfl⟩
theorem known_inP (b:Bool)(W:World)(P:Nat->Prop):(knownF b).InP W P (.agg (kV b)):=by
 cases b<;>exact⟨none,0,rfl,⟨by decide,by decide⟩,⟨by decide,by decide⟩,⟨by decide,by decide⟩,by decide,Nat.zero_le _,Nat.zero_le _,fun e=>absurd rfl e⟩
theorem compareD_any (a how b:Int)(h:1<=how/\ how<=6)(W:World):Calls Tryz.prog 188 #[.int .i64 a,.int .i64 how,.int .i64 b] W fun e W'=>e=.returned (.bool (cmpB a how b))/\ W=W':=by
 have hc:how=1\/how=2\/how=3\/how=4\/how=5\/how=6:=by omega
 rcases hc with rfl | rfl | rfl | rfl | rfl | rfl
 all_goals
  go_enter Tryz.func188,Tryz.ntmps188;go_wp2;go_ret;refine⟨?_,rfl⟩;exact congrArg (fun b=>Ending.returned (.bool b)) (by unfold cmpB;first | rfl | (rw[Bool.eq_iff_iff];simp) | simp)
theorem foInfo :(Tryz.prog.info? 47).map (fun i=>(i.zero,i.size,i.bytes))=some (some (.agg #[.int .i64 0,.string nilB,.int .i64 0,.int .i64 0,.slice none 0 0]),5,64):=by kernel_rfl
theorem run_buildSlice_fo (x:FoA)(w:World):(Instr.buildSlice 45 1 #[(0,.agg #[.int .i64 x.f.op,.string x.f.name,.int .i64 x.f.cmp,.int .i64 x.f.n,.slice x.ao x.f.kids.length x.cap])]).run Tryz.prog w=.ok (.slice (some ⟨w.heap.size,0,none⟩) 1 1) (w.alloc (.cells x.cells.toArray 47)):=by
 obtain⟨i,hi,hz,hs,_⟩:=info_parts foInfo;exact run_buildSlice_one x.cells Tryz.underlying45 hi hs hz rfl (by show 0<5;decide) (by show 5<=1000;decide) w
theorem fo_new (x:FoA)(w:World):∀j u,x.cells[j]? =some u->(w.alloc (.cells x.cells.toArray 47)).cell? ((⟨w.heap.size,0,none⟩:Addr).add j)=some u:=by
 intro j u hj;have:=(Blk.new w 47 x.cells.toArray).cell j;have e:(⟨w.heap.size,0,none⟩:Addr).add j=⟨w.heap.size,j,none⟩:=by simp[Addr.add];omega
 rw[e,this]
 simpa using hj
theorem set5 {W:World}{p:Nat}{c0 c1 c2 c3 c4:Value}(h:Blk W p 47 #[c0,c1,c2,c3,c4])(v0 v1 v2 v3 v4:Value):
  ∃w5,w5=((((W.setCell ⟨p,0,none⟩ v0).setCell ⟨p,1,none⟩ v1).setCell ⟨p,2,none⟩ v2).setCell ⟨p,3,none⟩ v3).setCell ⟨p,4,none⟩ v4/\ Blk w5 p 47 #[v0,v1,v2,v3,v4]/\ W.grownBy w5 (some p):=by
 have h0:Blk (W.setCell ⟨p,0,none⟩ v0) p 47 #[v0,c1,c2,c3,c4]:=h.set 0 v0;have g0:=grown_set W p 0 v0;generalize hw0:W.setCell ⟨p,0,none⟩ v0=w0 at*
 have h1:Blk (w0.setCell ⟨p,1,none⟩ v1) p 47 #[v0,v1,c2,c3,c4]:=h0.set 1 v1;have g1:=g0.trans (grown_set w0 p 1 v1);generalize hw1:w0.setCell ⟨p,1,none⟩ v1=w1 at*
 have h2:Blk (w1.setCell ⟨p,2,none⟩ v2) p 47 #[v0,v1,v2,c3,c4]:=h1.set 2 v2;have g2:=g1.trans (grown_set w1 p 2 v2);generalize hw2:w1.setCell ⟨p,2,none⟩ v2=w2 at*
 have h3:Blk (w2.setCell ⟨p,3,none⟩ v3) p 47 #[v0,v1,v2,v3,c4]:=h2.set 3 v3;have g3:=g2.trans (grown_set w2 p 3 v3);generalize hw3:w2.setCell ⟨p,3,none⟩ v3=w3 at*
 exact⟨_,rfl,h3.set 4 v4,g3.trans (grown_set w3 p 4 v4)⟩
theorem one_inP {w:World}{Q:Nat->Prop}{rb:Nat}{x:FoA}(hb:Blk w rb 47 x.cells.toArray)(hx:x.Ok w Q)(hQ:Q rb){op:Int}(h1:W64 op):(Fo.mk op nilB 0 0 [x.f]).InP w Q (.agg #[.int .i64 op,.string nilB,.int .i64 0,.int .i64 0,.slice (some ⟨rb,0,none⟩) 1 1]):=
 ⟨_,1,rfl,h1,⟨by decide,by decide⟩,⟨by decide,by decide⟩,by decide,Nat.le_refl _,by decide,fun _=>⟨rb,0,rfl,hQ,⟨⟨_,_,_,_,_,hb.cell 0,hb.cell 1,hb.cell 2,hb.cell 3,hb.cell 4,hx⟩,trivial⟩⟩⟩
def isFo (W:World)(b:Nat):Prop:=∃cs,W.heap[b]? =some (.cells cs 47 (0,0))
theorem isFo.lt {W:World}{b:Nat}(h:isFo W b):b<W.heap.size:=heap_lt h.choose_spec
theorem isFo.same {W W':World}{b:Nat}(h:isFo W b)(e:W'.heap[b]? =W.heap[b]?):isFo W' b:=⟨h.choose,e.trans h.choose_spec⟩
theorem own_isFo {W:World}{base n:Nat}{v:Value}{xs:List Value}(h:W.ownsRow base 47 5 v n xs):∀g,v.ownBlock=some g->base<=g/\ isFo W g:=fun g e=>by
 rcases h.2 with⟨rfl,_⟩ | ⟨g',cap,cur,rfl,h1,hg,_⟩
 ·cases e
 ·have:g'=g:=by simpa[Value.ownBlock]using e
  subst this;exact⟨h1,cur,hg⟩
def PN (P:Nat->Prop)(W W':World)(b:Nat):Prop:=P b\/(W.heap.size<=b/\ isFo W' b)
abbrev GivW (P:Nat->Prop)(nm:ByteArray)(x:Int)(f:Fo):Prop:=
 ∀(v:Value) (W:World),(∀b,P b->b<W.heap.size)->f.InP W P v->
  Calls Tryz.prog 152 #[v,.string nm,.int .i64 x] W fun e W'=>∃u,e=.returned u/\ (givF nm x f).InP W' (PN P W W') u/\ Below W.heap.size W W'
theorem same_below {P:Nat->Prop}{W W':World}{B:Nat}(hP:∀b,P b->b<B)(hb:Below B W W'):Same P W W':=fun b h=>hb.block b (hP b h)
theorem giv_leaf (P:Nat->Prop)(nm:ByteArray)(x:Int)(op c n:Int)(s:ByteArray)(hop:op=1\/op=2\/op=3)(hc:op=3->1<=c/\ c<=6):GivW P nm x (.mk op s c n []):=by
 intro v W hP hv;obtain⟨ao,cap,rfl,k1,k2,w1,w2,w3,w4,_⟩:=hv.shape;have HV:=Lib.hid hv;have hq:∀W',Below W.heap.size W W'->W.heap.size<=W'.heap.size->(Fo.mk op s c n []).InP W' (PN P W W') (.agg #[.int .i64 op,.string s,.int .i64 c,.int .i64 n,.slice ao 0 cap]):=fun W' hb _=>Fo.InP.step (same_below hP hb) (fun b h=>.inl h) _ _ HV.out
 have HQ:=Lib.hid hq;simp only[Fo.op,Fo.name,Fo.cmp,Fo.n,Fo.kids,List.length_nil]at*
 clear hv hq;have hb2:∀o1 o2,Below W.heap.size W ((W.alloc o1).alloc o2):=fun o1 o2=>((Below.refl _ _).alloc (Nat.le_refl _) _).alloc (by simp) _
 rcases hop with rfl | rfl | rfl
 ·have HG:=Lib.hid (show givF nm x (.mk 1 s c n [])=.mk 1 s c n [] by rw[givF];simp)
  go_enter Tryz.func152,Tryz.ntmps152;go_wp2;refine bodyPost_ret (results_cell1 (v:=.agg #[.int .i64 1,.string s,.int .i64 c,.int .i64 n,.slice ao 0 cap]) rfl _ _ _ rfl (by go_simp)) rfl ⟨_,rfl,?_,hb2 _ _⟩;rw[HG.out];exact HQ.out _ (hb2 _ _) (by simp;omega)
 ·have HG:=Lib.hid (show givF nm x (.mk 2 s c n [])=.mk 2 s c n [] by rw[givF];simp)
  go_enter Tryz.func152,Tryz.ntmps152;go_wp2;refine bodyPost_ret (results_cell1 (v:=.agg #[.int .i64 2,.string s,.int .i64 c,.int .i64 n,.slice ao 0 cap]) rfl _ _ _ rfl (by go_simp)) rfl ⟨_,rfl,?_,hb2 _ _⟩;rw[HG.out];exact HQ.out _ (hb2 _ _) (by simp;omega)
 ·cases he:eqB s nm with
  | false=>
   have HG:=Lib.hid (show givF nm x (.mk 3 s c n [])=.mk 3 s c n [] by rw[givF];simp[he]);have he2:(s.toList==nm.toList)=false:=he;clear he;go_enter Tryz.func152,Tryz.ntmps152;go_wp2;refine bodyPost_ret (results_cell1 (v:=.agg #[.int .i64 3,.string s,.int .i64 c,.int .i64 n,.slice ao 0 cap]) rfl _ _ _ rfl (by go_simp)) rfl ⟨_,rfl,?_,hb2 _ _⟩;rw[HG.out];exact HQ.out _ (hb2 _ _) (by simp;omega)
  | true=>
   have HG:=Lib.hid (show givF nm x (.mk 3 s c n [])=knownF (cmpB x c n) by rw[givF];simp[he]);have HC:=Lib.hid (fun W=>compareD_any x c n (hc rfl) W);generalize cmpB x c n=r at*
   have he2:(s.toList==nm.toList)=true:=he;clear hc he;have hb3:∀o1 o2 o3,Below W.heap.size W (((W.alloc o1).alloc o2).alloc o3):=fun o1 o2 o3=>(hb2 o1 o2).alloc (by simp;omega) _
   cases r
   all_goals
    go_enter Tryz.func152,Tryz.ntmps152;go_wp2_with (first | (go_at_call 188;refine(HC.out _).mono ?_;rintro e w2 ⟨rfl,rfl⟩) | (go_at_call 187;refine(known_any _ _).mono ?_;rintro e w2 ⟨rfl,rfl⟩));refine bodyPost_ret (results_cell1 (v:=.agg (kV _)) rfl _ _ _ rfl (by go_simp;try rfl)) rfl ⟨_,rfl,?_,hb3 _ _ _⟩;rw[HG.out];exact known_inP _ _ _
theorem giv_not (P:Nat->Prop)(nm:ByteArray)(x:Int)(k:Fo)(IH:GivW P nm x k):GivW P nm x (.mk 5 nilB 0 0 [k]):=by
 intro v W hP hv;obtain⟨ao,cap,rfl,k1,k2,w1,w2,w3,w4,hk⟩:=hv.shape;simp only[Fo.op,Fo.name,Fo.cmp,Fo.n,Fo.kids,List.length_cons,List.length_nil]at*
 obtain⟨b,off,rfl,hPb,hL⟩:=hk (by simp);obtain⟨ka,kc,c0,c1,c2,c3,c4,hK⟩:=Fo.InPL.get [k] off 0 (by simp) hL;simp only[Nat.zero_mul,Nat.add_zero,List.getElem_cons_zero]at c0 c1 c2 c3 c4 hK;have hbW:=hP b hPb
 have HI:=Lib.hid (IH _ ((W.alloc (.cells #[.int .i64 5,.string nilB,.int .i64 0,.int .i64 0,.slice (some ⟨b,off,none⟩) (0+1) cap] 47)).alloc (.cells #[.int .i64 0,.string nilB,.int .i64 0,.int .i64 0,.slice none 0 0] 47)) (fun b hb=>by have:=hP b hb;simp;omega)
  (Fo.InP.step (same_below hP (((Below.refl _ _).alloc (Nat.le_refl _) _).alloc (by simp) _)) (fun _ h=>h) _ _ hK))
 have HG:Hid (givF nm x (.mk 5 nilB 0 0 [k])=notF (givF nm x k)):=by
  show _=_
  rw[givF];simp[givL]
 generalize givF nm x k=g at*
 clear hv hk hL hK IH;go_enter Tryz.func152,Tryz.ntmps152;go_upto_region 7 with(go_at_call 152;refine HI.out.mono ?_;rintro e w2 ⟨u,rfl,hu,hb2⟩;obtain⟨ua,uc,rfl,u1,u2,u3,u4,u5,u6,_⟩:=hu.shape;have HU:=Lib.hid hu;have HB2:=Lib.hid hb2;clear hu hb2);have hsz2:W.heap.size+2<=w2.heap.size:=by have:=HB2.out.size;simpa using this
 have hbB:Below W.heap.size W w2:=(((Below.refl _ _).alloc (Nat.le_refl _) _).alloc (by simp) _).trans (HB2.out.mono (by simp;omega))
 have hres:Blk w2 (W.heap.size+1) 47 #[.int .i64 0,.string nilB,.int .i64 0,.int .i64 0,.slice none 0 0]:=by
  have q:=(Blk.new (W.alloc (.cells #[.int .i64 5,.string nilB,.int .i64 0,.int .i64 0,.slice (some ⟨b,off,none⟩) (0+1) cap] 47)) 47 #[.int .i64 0,.string nilB,.int .i64 0,.int .i64 0,.slice none 0 0]).below HB2.out
  simpa only[World.size_alloc]using q
 have HBB:=Lib.hid hbB;have HRES:=Lib.hid hres;clear hbB hres;cases hc:conF g with
 | some r=>
  have HN:=Lib.hid (show notF g=knownF (!r) by unfold notF;rw[hc])
  have e12:(g.op==1)=r/\ (g.op==2)= !r:=by
   unfold conF at hc;by_cases h1:g.op=1
   ·rw[if_pos h1]at hc;cases hc;rw[h1];exact⟨rfl,rfl⟩
   ·rw[if_neg h1]at hc
    by_cases h2:g.op=2
    ·rw[if_pos h2]at hc;cases hc;rw[h2];exact⟨rfl,rfl⟩
    ·rw[if_neg h2]at hc;cases hc
  obtain⟨e1,e2⟩:=e12;obtain⟨q,hq⟩:∃q,q= !r:=⟨_,rfl⟩;rw[<-hq]at HN e2;have hq2:r= !q:=by rw[hq];simp
  rw[hq2]at e1;clear hq hq2;clear hc;have hres2:=(HRES.out.alloc (.cells #[.int .i64 g.op,.string g.name,.int .i64 g.cmp,.int .i64 g.n,.slice ua g.kids.length uc] 47)).alloc (.cells (kV q) 47);have r0:=hres2.cell 0;have r1:=hres2.cell 1;have r2:=hres2.cell 2;have r3:=hres2.cell 3;have r4:=hres2.cell 4;have f0:=hres2.frozen 0;have f1:=hres2.frozen 1;have f2:=hres2.frozen 2;have f3:=hres2.frozen 3;have f4:=hres2.frozen 4;have hbb:Below W.heap.size W ((w2.alloc (.cells #[.int .i64 g.op,.string g.name,.int .i64 g.cmp,.int .i64 g.n,.slice ua g.kids.length uc] 47)).alloc (.cells (kV q) 47)):=(HBB.out.alloc (by omega) _).alloc (by simp;omega) _;obtain⟨w5,hw5,hB5,hg5⟩:=set5 hres2 (.int .i64 (if q=true then 1 else 2)) (.string nilB) (.int .i64 0) (.int .i64 0) (.slice none 0 0);have HB5:=Lib.hid hB5;have HG5:=Lib.hid (hbb.grown hg5 (by simp;omega) (fun k e=>by cases e;omega));have HW5:=Lib.hid hw5;clear HI hres2 hbb hB5 hg5 hw5;cases q
  all_goals
   go_wp2_with (go_at_call 187;refine(known_any _ _).mono ?_;rintro e w2 ⟨rfl,rfl⟩);have HW:=HW5.out;simp only[Bool.false_eq_true,if_false,if_true]at HW;rw[<-HW];have t0:=HB5.out.cell 0;have t1:=HB5.out.cell 1;have t2:=HB5.out.cell 2;have t3:=HB5.out.cell 3;have t4:=HB5.out.cell 4;clear HW5 HW r0 r1 r2 r3 r4 f0 f1 f2 f3 f4;refine bodyPost_ret (results_cell1 (v:=.agg (kV _)) rfl _ _ _ rfl (by go_simp;try rfl)) rfl ⟨_,rfl,?_,HG5.out⟩;rw[HG.out,HN.out];exact known_inP _ _ _
 | none=>
  obtain⟨n1,n2⟩:=con_op.1 hc;have HN:=Lib.hid (show notF g=.mk 5 nilB 0 0 [g] by unfold notF;rw[hc]);have e1:(g.op==1)=false:=by simpa using n1
  have e2:(g.op==2)=false:=by simpa using n2
  have hbs:=run_buildSlice_fo ⟨g,ua,uc⟩;simp only[FoA.cells]at hbs;have hres2:=(HRES.out.alloc (.cells #[.int .i64 g.op,.string g.name,.int .i64 g.cmp,.int .i64 g.n,.slice ua g.kids.length uc] 47)).alloc (.cells #[.int .i64 g.op,.string g.name,.int .i64 g.cmp,.int .i64 g.n,.slice ua g.kids.length uc] 47);have r0:=hres2.cell 0;have r1:=hres2.cell 1;have r2:=hres2.cell 2;have r3:=hres2.cell 3;have r4:=hres2.cell 4;have f0:=hres2.frozen 0;have f1:=hres2.frozen 1;have f2:=hres2.frozen 2;have f3:=hres2.frozen 3;have f4:=hres2.frozen 4;have hbb:Below w2.heap.size w2 ((w2.alloc (.cells #[.int .i64 g.op,.string g.name,.int .i64 g.cmp,.int .i64 g.n,.slice ua g.kids.length uc] 47)).alloc (.cells #[.int .i64 g.op,.string g.name,.int .i64 g.cmp,.int .i64 g.n,.slice ua g.kids.length uc] 47)):=((Below.refl _ _).alloc (by omega) _).alloc (by simp) _;obtain⟨w5,hw5,hB5,hg5⟩:=set5 hres2 (.int .i64 5) (.string ⟨#[]⟩) (.int .i64 0) (.int .i64 0) (.slice (some ⟨w2.heap.size+1,0,none⟩) 1 1)
  have hrow:Blk w5 (w2.heap.size+1) 47 (FoA.mk g ua uc).cells.toArray:=by
   have q:=Blk.new (w2.alloc (.cells #[.int .i64 g.op,.string g.name,.int .i64 g.cmp,.int .i64 g.n,.slice ua g.kids.length uc] 47)) 47 #[.int .i64 g.op,.string g.name,.int .i64 g.cmp,.int .i64 g.n,.slice ua g.kids.length uc];rw[World.size_alloc]at q;exact q.grown hg5 (by simp;omega)
  have HFIN:Hid ((Fo.mk 5 nilB 0 0 [g]).InP w5 (PN P W w5) (.agg #[.int .i64 5,.string nilB,.int .i64 0,.int .i64 0,.slice (some ⟨w2.heap.size+1,0,none⟩) 1 1])):=by
   have hsm:Same (PN P ((W.alloc (.cells #[.int .i64 5,.string nilB,.int .i64 0,.int .i64 0,.slice (some ⟨b,off,none⟩) (0+1) cap] 47)).alloc (.cells #[.int .i64 0,.string nilB,.int .i64 0,.int .i64 0,.slice none 0 0] 47)) w2) w2 w5:=fun b hb=>by
    have hlt:b<w2.heap.size/\ b≠W.heap.size+1:=by
     rcases hb with h | ⟨h,h'⟩
     ·have:=hP b h;exact⟨by omega,by omega⟩
     ·simp only[World.size_alloc]at h;exact⟨h'.lt,by omega⟩
    rw[hg5.block b (by simp;omega) (by simp;exact hlt.2)];exact hbb.block b hlt.1
   refine one_inP (x:=⟨g,ua,uc⟩) hrow (Fo.InP.step hsm (fun b hb=>?_) _ _ HU.out) (.inr ⟨by omega,_,hrow⟩) ⟨by decide,by decide⟩;rcases hb with h | ⟨h,h'⟩
   ·exact .inl h
   ·have hq:=h'.same (hsm b (.inr ⟨h,h'⟩))
    simp only[World.size_alloc]at h;exact .inr ⟨by omega,hq⟩
  have HB5:=Lib.hid hB5;have HG5:=Lib.hid ((HBB.out.trans (hbb.mono (by omega))).grown hg5 (by simp;omega) (fun k e=>by cases e;omega));have HW5:=Lib.hid hw5;clear HI hres2 hbb hB5 hg5 hw5 hrow hc;go_wp2;rw[<-HW5.out];have t0:=HB5.out.cell 0;have t1:=HB5.out.cell 1;have t2:=HB5.out.cell 2;have t3:=HB5.out.cell 3;have t4:=HB5.out.cell 4;clear HW5 r0 r1 r2 r3 r4 f0 f1 f2 f3 f4;refine bodyPost_ret (results_cell1 (v:=.agg #[.int .i64 5,.string nilB,.int .i64 0,.int .i64 0,.slice (some ⟨w2.heap.size+1,0,none⟩) 1 1]) rfl _ _ _ rfl (by go_simp;try rfl)) rfl ⟨_,rfl,?_,HG5.out⟩;rw[HG.out,HN.out];exact HFIN.out
end
section
open Go.RowKit
structure JoS (P : Nat -> Prop) (B0 : Nat) (G : Fo -> Fo) (unit zero : Int) (ks : List Fo) (wS : World) (j : Nat) (xs : List FoA) (ov : Value) (wr : World) : Prop where
 bel:Below B0 wS wr
 own:wr.ownsRow B0 47 5 ov xs.length (xs.flatMap FoA.cells)
 ok:∀y∈xs,y.Ok wr (fun b=>(P b\/(B0<=b/\ isFo wr b))/\ ∀g,ov.ownBlock=some g->b≠g)
 map:xs.map (·.f)=((ks.take j).map G).filter (fun k=>k.op !=unit)
 nz:∀k∈ks.take j,(G k).op≠zero
variable {P : Nat -> Prop} {B0 : Nat} {G : Fo -> Fo} {unit zero : Int} {ks : List Fo} {wS wr : World} {j : Nat} {xs : List FoA} {ov : Value}
theorem JoS.skip (h:JoS P B0 G unit zero ks wS j xs ov wr)(hB:B0<=wS.heap.size)(hP:∀b,P b->b<B0){w5:World}(hb:Below wr.heap.size wr w5)(hj:j<ks.length)(hu:(G ks[j]).op=unit)(hz:(G ks[j]).op≠zero):
  JoS P B0 G unit zero ks wS (j+1) xs ov w5:=by
 have hs:=h.bel.size;refine⟨h.bel.trans (hb.mono (by omega)),own_under h.own hb,fun y hy=>(h.ok y hy).step (fun b hb'=>hb.block b ?_) (fun b hb'=>⟨hb'.1.imp id fun q=>⟨q.1,q.2.same (hb.block b q.2.lt)⟩,hb'.2⟩),?_,?_⟩
 ·rcases hb'.1 with q | q
  ·have:=hP b q;omega
  ·exact q.2.lt
 ·rw[List.take_succ_eq_append_getElem hj,List.map_append,List.filter_append,h.map]
  simp[hu]
 ·intro k hk
  rw[List.take_succ_eq_append_getElem hj]at hk;rcases List.mem_append.1 hk with hk | hk
  ·exact h.nz k hk
  ·rw[List.mem_singleton]at hk;rw[hk];exact hz
theorem JoS.push (h:JoS P B0 G unit zero ks wS j xs ov wr)(hB:B0<=wS.heap.size)(hP:∀b,P b->b<B0){w5 w7:World}(hb:Below wr.heap.size wr w5)(hj:j<ks.length)(hu:(G ks[j]).op≠unit)(hz:(G ks[j]).op≠zero)
  {x:FoA} (hx:x.f=G ks[j]) (hok:x.Ok w5 (fun b=>P b\/(wr.heap.size<=b/\ isFo w5 b))) {o:Obj} {v7:Value} (hown:w7.ownsRow B0 47 5 v7 (xs.length+1) (xs.flatMap FoA.cells++x.cells))
  (hg:(w5.alloc o).grownBy w7 ov.ownBlock) (hat:v7.ownBlock=ov.ownBlock\/v7.ownBlock=some (w5.alloc o).heap.size):JoS P B0 G unit zero ks wS (j+1) (xs++[x]) v7 w7:=by
 have hs:=h.bel.size;have hs5:=hb.size;have hs7:=hg.size;rw[World.size_alloc]at hs7 hat;have hvb:∀g,ov.ownBlock=some g->B0<=g/\ g<wr.heap.size:=h.own.lt
 have st:∀b,b<w5.heap.size->(∀g,ov.ownBlock=some g->b≠g)->w7.heap[b]? =w5.heap[b]? :=fun b h1 h2=>by
  rw[hg.block b (by simp;omega) (fun e=>h2 b e.symm rfl),Below.heap_alloc _ _ _ h1]
 refine⟨(h.bel.trans (hb.mono (by omega))).trans (((Below.refl _ _).alloc (by omega) o).grown hg (by simp;omega) fun k e=>(hvb k e).1),by rw[List.length_append,List.flatMap_append];simpa using hown,fun y hy=>?_,?_,?_⟩
 ·rcases List.mem_append.1 hy with hy | hy
  ·have hlt:∀b,(P b\/(B0<=b/\ isFo wr b))->b<wr.heap.size:=fun b q=>by
    rcases q with q | q
    ·have:=hP b q;omega
    ·exact q.2.lt
   have hsm:∀b,(P b\/(B0<=b/\ isFo wr b))->(∀g,ov.ownBlock=some g->b≠g)->w7.heap[b]? =wr.heap[b]? :=fun b q r=>by
    rw[st b (by have:=hlt b q;omega) r,hb.block b (hlt b q)]
   refine(h.ok y hy).step (fun b hb'=>hsm b hb'.1 hb'.2) (fun b hb'=>?_);refine⟨hb'.1.imp id fun q=>⟨q.1,q.2.same (hsm b hb'.1 hb'.2)⟩,fun g e=>?_⟩;rcases hat with q | q
   ·exact hb'.2 g (by rw[<-q];exact e)
   ·rw[q]at e;cases e;have:=hlt _ hb'.1;omega
  ·rw[List.mem_singleton]at hy
   subst hy
   have hlt:∀b,(P b\/(wr.heap.size<=b/\ isFo w5 b))->b<w5.heap.size:=fun b q=>by
    rcases q with q | q
    ·have:=hP b q;omega
    ·exact q.2.lt
   have hno:∀b,(P b\/(wr.heap.size<=b/\ isFo w5 b))->∀g,ov.ownBlock=some g->b≠g:=fun b q g e=>by
    have:=hvb g e;rcases q with q | q
    ·have:=hP b q;omega
    ·omega
   refine hok.step (fun b hb'=>st b (hlt b hb') (hno b hb')) (fun b hb'=>?_);refine⟨hb'.imp id fun q=>⟨by omega,q.2.same (st b (hlt b hb') (hno b hb'))⟩,fun g e=>?_⟩;rcases hat with q | q
   ·rw[q]at e;exact hno b hb' g e
   ·rw[q]at e;cases e;have:=hlt _ hb';omega
 ·rw[List.take_succ_eq_append_getElem hj,List.map_append,List.map_append,List.filter_append,h.map]
  simp[hu,hx]
 ·intro k hk
  rw[List.take_succ_eq_append_getElem hj]at hk;rcases List.mem_append.1 hk with hk | hk
  ·exact h.nz k hk
  ·rw[List.mem_singleton]at hk;rw[hk];exact hz
theorem join_zero {op:Int}(hj:j<ks.length)(h:∀k∈ks.take j,(G k).op≠zero)(hz:(G ks[j]).op=zero):joinF op unit zero (ks.map G)=G ks[j]:=by
 unfold joinF
 have:(ks.map G).find? (fun k=>k.op==zero)=some (G ks[j]):=by
  have hd:ks=ks.take j++ks[j]::ks.drop (j+1):=by rw[<-List.drop_eq_getElem_cons hj,List.take_append_drop]
  have h0:(ks.take j).map G++G ks[j]::(ks.drop (j+1)).map G=ks.map G:=by
   rw[<-List.map_cons, <-List.map_append, <-hd]
  rw[<-h0,List.find?_append,List.find?_eq_none.2 (by
   intro k hk
   obtain⟨y,hy,rfl⟩:=List.mem_map.1 hk
   simpa using h y hy)]
  simp[hz]
 rw[this]
def joinR (op unit:Int):List Fo->Fo
 | []=>.mk unit nilB 0 0 []
 | [k]=>k
 | ks=>.mk op nilB 0 0 ks
theorem join_rest {op:Int}(h:∀k∈ks,(G k).op≠zero){fs:List Fo}(hf:fs=(ks.map G).filter (fun k=>k.op !=unit)):joinF op unit zero (ks.map G)=joinR op unit fs:=by
  unfold joinF
  rw[List.find?_eq_none.2 (by
      intro k hk
      obtain⟨y,hy,rfl⟩:=List.mem_map.1 hk
      simpa using h y hy)]
  dsimp only
  rw[<-hf];cases fs with
  | nil=>rfl
  | cons a l=>cases l<;>rfl
theorem giv_join (P:Nat->Prop)(nm:ByteArray)(x:Int)(op unit zero:Int)(hop:op=6/\ unit=1/\ zero=2\/op=7/\ unit=2/\ zero=1)(ks:List Fo)(IH:∀k∈ks,GivW P nm x k)(hl:ks.length<=100000):GivW P nm x (.mk op nilB 0 0 ks):=by
 intro v W hP hv;obtain⟨ao,cap,rfl,k1,k2,w1,w2,w3,w4,hk⟩:=hv.shape;simp only[Fo.op,Fo.name,Fo.cmp,Fo.n,Fo.kids]at*
 have hG:givF nm x (.mk op nilB 0 0 ks)=joinF op unit zero (ks.map (givF nm x)):=by
  rw[givF,givL_eq];rcases hop with⟨rfl,rfl,rfl⟩ | ⟨rfl,rfl,rfl⟩<;>simp
 have HG:=Lib.hid hG;have HK:=Lib.hid hk;have HIH:=Lib.hid IH;generalize hwS:(W.alloc (.cells #[.int .i64 op,.string nilB,.int .i64 0,.int .i64 0,.slice ao ks.length cap] 47)).alloc (.cells #[.int .i64 0,.string ⟨#[]⟩,.int .i64 0,.int .i64 0,.slice none 0 0] 47)=wS;have hsS:wS.heap.size=W.heap.size+2:=by rw[<-hwS];simp
 have HBS:Hid (Below W.heap.size W wS):=by
  show Below _ _ _
  rw[<-hwS];exact((Below.refl _ _).alloc (Nat.le_refl _) _).alloc (by simp) _
 have HF:Hid (Blk wS W.heap.size 47 #[.int .i64 op,.string nilB,.int .i64 0,.int .i64 0,.slice ao ks.length cap]):=by
  show Blk _ _ _ _
  rw[<-hwS];exact(Blk.new _ _ _).alloc _
 have HR:Hid (Blk wS (W.heap.size+1) 47 #[.int .i64 0,.string ⟨#[]⟩,.int .i64 0,.int .i64 0,.slice none 0 0]):=by
  show Blk _ _ _ _
  have q:=Blk.new (W.alloc (.cells #[.int .i64 op,.string nilB,.int .i64 0,.int .i64 0,.slice ao ks.length cap] 47)) 47 #[.int .i64 0,.string ⟨#[]⟩,.int .i64 0,.int .i64 0,.slice none 0 0];rw[World.size_alloc]at q;rw[<-hwS];exact q
 have HP:=Lib.hid (show ∀b,P b->b<W.heap.size+2 from fun b h=>by have:=hP b h;omega)
 have HJ0:Hid (JoS P (W.heap.size+2) (givF nm x) unit zero ks wS 0 [] (.slice none 0 0) wS):=
  ⟨Below.refl _ _,World.ownsRow_nil _ _ _ _,by simp,by simp,by simp⟩
 have HWS:=Lib.hid hwS;clear hv hk IH hG hwS;obtain⟨i0,hi0,hz0,hz1,hz2⟩:=info_parts foInfo;rcases hop with⟨rfl,rfl,rfl⟩ | ⟨rfl,rfl,rfl⟩
 ·go_enter Tryz.func152,Tryz.ntmps152
  go_upto_region 17 with(fail);rw[HWS.out];clear HWS
  go_loopw [10,63] (fun ov iv wr=>∃(j:Nat) (xs:List FoA),j<=ks.length/\ iv=.int .i64 j/\ xs.length<=j/\ Hid (JoS P (W.heap.size+2) (givF nm x) 1 2 ks wS j xs ov wr)) (fun _ iv _=>ks.length-(intOf iv).toNat)
  case atStart=>exact⟨0,[],by omega,rfl,by simp,HJ0⟩
  case round=>
   obtain⟨j,xs,hj,rfl,hxl,hJ⟩:=hrel;have hsr:=hJ.out.bel.size;have hbWr:=HBS.out.trans (hJ.out.bel.mono (by omega));have hRr:Blk wr (W.heap.size+1) 47 #[.int .i64 0,.string ⟨#[]⟩,.int .i64 0,.int .i64 0,.slice none 0 0]:=(hJ.out.bel.block _ (by omega)).trans HR.out;have hFr:Blk wr W.heap.size 47 #[.int .i64 6,.string nilB,.int .i64 0,.int .i64 0,.slice ao ks.length cap]:=(hJ.out.bel.block _ (by omega)).trans HF.out;have HRR:=Lib.hid hRr;have HFR:=Lib.hid hFr;have HBW:=Lib.hid hbWr;clear HJ0 hRr hFr;by_cases hlt:j<ks.length
   ·obtain⟨b,off,rfl,hPb,hL⟩:=HK.out (by intro e;rw[e]at hlt;simp at hlt)
    obtain⟨ka,kc,c0,c1,c2,c3,c4,hKid⟩:=Fo.InPL.get ks off j hlt hL;have hbP:=hP b hPb;have d0:=(hbWr.cell (p:=⟨b,off+j*5,none⟩) hbP).trans c0;have d1:=(hbWr.cell (p:=⟨b,off+j*5+1,none⟩) hbP).trans c1;have d2:=(hbWr.cell (p:=⟨b,off+j*5+2,none⟩) hbP).trans c2;have d3:=(hbWr.cell (p:=⟨b,off+j*5+3,none⟩) hbP).trans c3;have d4:=(hbWr.cell (p:=⟨b,off+j*5+4,none⟩) hbP).trans c4
    have HI:=Lib.hid (HIH.out ks[j] (List.getElem_mem _) _ (wr.alloc (.cells #[.int .i64 ks[j].op,.string ks[j].name,.int .i64 ks[j].cmp,.int .i64 ks[j].n,.slice ka ks[j].kids.length kc] 47)) (fun b hb=>by have:=hP b hb;simp;omega)
     (Fo.InP.step (same_below hP (hbWr.alloc (by omega) _)) (fun _ h=>h) _ _ hKid))
    have HZ:=Lib.hid (fun(hz:(givF nm x ks[j]).op=2)=>join_zero (op:=6) (unit:=1) hlt hJ.out.nz hz);have HSK:=Lib.hid (fun(w5:World) (hb:Below wr.heap.size wr w5) (hu:(givF nm x ks[j]).op=1) hz=>hJ.out.skip (by omega) HP.out hb hlt hu hz);have HPU:=Lib.hid (fun(w5 w7:World) (hb:Below wr.heap.size wr w5) (hu:(givF nm x ks[j]).op≠1) hz (y:FoA) (hy:y.f=givF nm x ks[j]) (hok:y.Ok w5 _) o v7 hown hg hat=>hJ.out.push (w7:=w7) (x:=y) (o:=o) (v7:=v7) (by omega) HP.out hb hlt hu hz hy hok hown hg hat);generalize givF nm x ks[j]=g at*
    have hbs2:b<wr.heap.size:=by omega
    clear c0 c1 c2 c3 c4 hKid hL hbWr hbP;go_upto_region 20 with(go_at_call 152;refine HI.out.mono ?_;rintro e w2 ⟨u,rfl,hu,hb2⟩;obtain⟨ua,uc,rfl,u1,u2,u3,u4,u5,u6,_⟩:=hu.shape;have HU:=Lib.hid hu;have HB2:=Lib.hid hb2;have hk2:=(Blk.new wr 47 #[.int .i64 ks[j].op,.string ks[j].name,.int .i64 ks[j].cmp,.int .i64 ks[j].n,.slice ka ks[j].kids.length kc]).below hb2;have r0:=hk2.cell 0;have r1:=hk2.cell 1;have r2:=hk2.cell 2;have r3:=hk2.cell 3;have r4:=hk2.cell 4;have f0:=hk2.frozen 0;have f1:=hk2.frozen 1;have f2:=hk2.frozen 2;have f3:=hk2.frozen 3;have f4:=hk2.frozen 4;obtain⟨w5,hw5,hB5,hg5⟩:=set5 hk2 (.int .i64 g.op) (.string g.name) (.int .i64 g.cmp) (.int .i64 g.n) (.slice ua g.kids.length uc);have HW5:=Lib.hid hw5;have HB5:=Lib.hid hB5;have HG5:=Lib.hid hg5;clear hu hb2 hk2 hw5 hB5 hg5);rw[<-HW5.out];clear HW5 r0 r1 r2 r3 r4 f0 f1 f2 f3 f4 HI d0 d1 d2 d3 d4;have hs2:wr.heap.size+1<=w2.heap.size:=by have:=HB2.out.size;rwa[World.size_alloc]at this
    have hs5:=HG5.out.size;have HB:=Lib.hid ((((Below.refl wr.heap.size wr).alloc (Nat.le_refl _) _).trans (HB2.out.mono (by rw[World.size_alloc];omega))).grown HG5.out (by omega) (fun k e=>by cases e;exact Nat.le_refl _))
    have HOK:Hid (FoA.Ok w5 (fun b=>P b\/(wr.heap.size<=b/\ isFo w5 b)) ⟨g,ua,uc⟩):=by
     refine Fo.InP.step (fun b hb=>?_) (fun b hb=>?_) _ _ HU.out
     ·rcases hb with h | ⟨h,h'⟩
      ·exact HG5.out.block b (by have:=hP b h;omega) (fun e=>by cases e;have:=hP _ h;omega)
      ·rw[World.size_alloc]at h;exact HG5.out.block b h'.lt (fun e=>by cases e;omega)
     ·rcases hb with h | ⟨h,h'⟩
      ·exact .inl h
      ·rw[World.size_alloc]at h;exact .inr ⟨by omega,h'.same (HG5.out.block b h'.lt (fun e=>by cases e;omega))⟩
    have t0:=HB5.out.cell 0;have t1:=HB5.out.cell 1;have t2:=HB5.out.cell 2;have t3:=HB5.out.cell 3;have t4:=HB5.out.cell 4;have hlt5:wr.heap.size<w5.heap.size:=by omega
    clear HB2 HG5 HU HB5;by_cases hz:g.op=2
    ·have hzz:(g.op==2)=true:=by rw[hz];rfl
     have hR5:=(HB.out.block _ (by omega)).trans HRR.out;have r0:=Blk.cell hR5 0;have r1:=Blk.cell hR5 1;have r2:=Blk.cell hR5 2;have r3:=Blk.cell hR5 3;have r4:=Blk.cell hR5 4;have f0:=Blk.frozen hR5 0;have f1:=Blk.frozen hR5 1;have f2:=Blk.frozen hR5 2;have f3:=Blk.frozen hR5 3;have f4:=Blk.frozen hR5 4;obtain⟨w6,hw6,hB6,hg6⟩:=set5 hR5 (.int .i64 g.op) (.string g.name) (.int .i64 g.cmp) (.int .i64 g.n) (.slice ua g.kids.length uc);have HW6:=Lib.hid hw6;have HB6:=Lib.hid hB6;have HBF:=Lib.hid ((HBW.out.trans (HB.out.mono (by omega))).grown hg6 (by omega) (fun k e=>by cases e;omega))
     have HFI:Hid (g.InP w6 (PN P W w6) (.agg #[.int .i64 g.op,.string g.name,.int .i64 g.cmp,.int .i64 g.n,.slice ua g.kids.length uc])):=by
      have hs6:=hg6.size;refine Fo.InP.step (fun b hb=>?_) (fun b hb=>?_) _ _ HOK.out
      ·rcases hb with h | ⟨h,h'⟩
       ·exact hg6.block b (by have:=hP b h;omega) (fun e=>by cases e;have:=hP _ h;omega)
       ·exact hg6.block b h'.lt (fun e=>by cases e;omega)
      ·rcases hb with h | ⟨h,h'⟩
       ·exact .inl h
       ·exact .inr ⟨by omega,h'.same (hg6.block b h'.lt (fun e=>by cases e;omega))⟩
     have HZQ:=Lib.hid (HZ.out hz);clear hR5 hw6 hB6 hg6 HSK HPU hJ hz HZ;go_wp2;rw[<-HW6.out];have q0:=HB6.out.cell 0;have q1:=HB6.out.cell 1;have q2:=HB6.out.cell 2;have q3:=HB6.out.cell 3;have q4:=HB6.out.cell 4;clear HW6 r0 r1 r2 r3 r4 f0 f1 f2 f3 f4 t0 t1 t2 t3 t4;refine bodyPost_ret (results_cell1 (v:=.agg #[.int .i64 g.op,.string g.name,.int .i64 g.cmp,.int .i64 g.n,.slice ua g.kids.length uc]) rfl _ _ _ rfl (by go_simp;try rfl)) rfl ⟨_,rfl,?_,HBF.out⟩;rw[HG.out,HZQ.out];exact HFI.out
    ·have hzz:(g.op==2)=false:=by simpa using hz
     by_cases hun:g.op=1
     ·have huu:(g.op==1)=true:=by rw[hun];rfl
      have HN:=Lib.hid (HSK.out w5 HB.out hun hz);clear HPU hJ hun hz HZ;go_wp2;go_roundw
      case rel=>exact⟨j+1,xs,by omega,by go_num,by omega,HN⟩
      case measure=>simp[intOf];omega
     ·have huu:(g.op==1)=false:=by simpa using hun
      have hbs:=run_buildSlice_fo ⟨g,ua,uc⟩;simp only[FoA.cells]at hbs;have HN:=Lib.hid (fun w7 v7 hown hg hat=>HPU.out w5 w7 HB.out hun hz ⟨g,ua,uc⟩ rfl HOK.out (.cells (FoA.mk g ua uc).cells.toArray 47) v7 hown hg hat);have HOW:=Lib.hid ((own_under hJ.out.own HB.out).alloc (.cells (FoA.mk g ua uc).cells.toArray 47));have hbase:W.heap.size+2<=(w5.alloc (.cells (FoA.mk g ua uc).cells.toArray 47)).heap.size:=by simp;omega
      clear HPU hJ HSK hun hz HZ;go_wp2_with (at_builtin;refine wpList_append_own_at _ (by rfl) _ _ 45 (by rfl) (W.heap.size+2) 47 i0 _ 5 64 Tryz.underlying45 hi0 hz0 hz1 hz2 rfl (by decide) _ xs.length _ (by rfl) HOW.out ⟨w5.heap.size,0,none⟩ 1 1 (FoA.mk g ua uc).cells (by rfl) (by rfl) (fo_new ⟨g,ua,uc⟩ w5) (by intro u hu;simp[FoA.cells]at hu;rcases hu with rfl | rfl | rfl | rfl | rfl<;>rfl) (by unfold maxLen;omega) (by omega) hbase ?_;intro v7 w7 hown7 hgrow7 hnil7 hat7;refine Hid.out ?_);refine Lib.hid ?_;have HN2:=Lib.hid (HN.out w7 v7 hown7 hgrow7 hat7);clear hown7 hgrow7 hnil7 hat7;go_wp2;go_roundw
      case rel=>exact⟨j+1,xs++[⟨g,ua,uc⟩],by omega,by go_num,by simp;omega,HN2⟩
      case measure=>simp[intOf];omega
   ·obtain rfl:j=ks.length:=by omega
    have hmap:=hJ.out.map;rw[List.take_length]at hmap;have HJR:=Lib.hid (join_rest (op:=6) (unit:=1) (fun k hk=>hJ.out.nz k (by rw[List.take_length];exact hk)) hmap);have HOWN:=Lib.hid hJ.out.own;have HOK:=Lib.hid (fun y hy=>(hJ.out.ok y hy).step (Q:=fun b=>P b\/(W.heap.size+2<=b/\ isFo wr b)) (fun _ _=>rfl) (fun b h=>h.1));obtain⟨va,vcap,hva⟩:=own_len hJ.out.own;have r0:=HRR.out.cell 0;have r1:=HRR.out.cell 1;have r2:=HRR.out.cell 2;have r3:=HRR.out.cell 3;have r4:=HRR.out.cell 4;have f0:=HRR.out.frozen 0;have f1:=HRR.out.frozen 1;have f2:=HRR.out.frozen 2;have f3:=HRR.out.frozen 3;have f4:=HRR.out.frozen 4;have g0:=HFR.out.cell 0;have H6:=Lib.hid (fun v0 v1 v2 v3 v4=>set5 HRR.out v0 v1 v2 v3 v4)
    have HST:Hid (∀(w6:World) (f:Fo) (v:Value),wr.grownBy w6 (some (W.heap.size+1))->f.InP wr (fun b=>P b\/(W.heap.size+2<=b/\ isFo wr b)) v->f.InP w6 (PN P W w6) v):=fun w6 f v hg hf=>by
     have hs6:=hg.size;refine Fo.InP.step (fun b hb=>?_) (fun b hb=>?_) _ _ hf
     ·rcases hb with h | ⟨h,h'⟩
      ·exact hg.block b (by have:=hP b h;omega) (fun e=>by cases e;have:=hP _ h;omega)
      ·exact hg.block b h'.lt (fun e=>by cases e;omega)
     ·rcases hb with h | ⟨h,h'⟩
      ·exact .inl h
      ·exact .inr ⟨by omega,h'.same (hg.block b h'.lt (fun e=>by cases e;omega))⟩
    have HBZ:Hid (∀w6,wr.grownBy w6 (some (W.heap.size+1))->Below W.heap.size W w6):=fun w6 hg=>HBW.out.grown hg (by omega) (fun k e=>by cases e;omega)
    subst hva;clear hmap hbWr hJ;rcases xs with _ | ⟨y,_ | ⟨y2,ys⟩⟩
    ·obtain⟨w6,hw6,hB6,hg6⟩:=H6.out (.int .i64 1) (.string ⟨#[]⟩) (.int .i64 0) (.int .i64 0) (.slice none 0 0)
     have HW6:=Lib.hid hw6;have HB6:=Lib.hid hB6;have HFI:=Lib.hid (HST.out w6 (.mk 1 nilB 0 0 []) (.agg #[.int .i64 1,.string nilB,.int .i64 0,.int .i64 0,.slice none 0 0]) hg6 ⟨none,0,rfl,⟨by decide,by decide⟩,⟨by decide,by decide⟩,⟨by decide,by decide⟩,by decide,Nat.zero_le _,Nat.zero_le _,fun e=>absurd rfl e⟩);have HBF:=Lib.hid (HBZ.out w6 hg6);clear hw6 hB6 hg6;go_wp2;rw[<-HW6.out];have q0:=HB6.out.cell 0;have q1:=HB6.out.cell 1;have q2:=HB6.out.cell 2;have q3:=HB6.out.cell 3;have q4:=HB6.out.cell 4;clear HW6 r0 r1 r2 r3 r4 f0 f1 f2 f3 f4 g0;refine bodyPost_ret (results_cell1 (v:=.agg #[.int .i64 1,.string nilB,.int .i64 0,.int .i64 0,.slice none 0 0]) rfl _ _ _ rfl (by go_simp;try rfl)) rfl ⟨_,rfl,?_,HBF.out⟩;rw[HG.out,HJR.out];exact HFI.out
    ·obtain⟨yf,yao,ycap⟩:=y
     obtain⟨g,cp,hgv,hg1,hg2⟩:=HOWN.out.form (by simp);obtain⟨rfl,rfl⟩:va=some ⟨g,0,none⟩/\ vcap=cp:=by simpa using hgv
     obtain⟨w6,hw6,hB6,hg6⟩:=H6.out (.int .i64 yf.op) (.string yf.name) (.int .i64 yf.cmp) (.int .i64 yf.n) (.slice yao yf.kids.length ycap);have HW6:=Lib.hid hw6;have HB6:=Lib.hid hB6;have HFI:=Lib.hid (HST.out w6 yf _ hg6 (HOK.out _ (List.mem_cons_self ..)));have HBF:=Lib.hid (HBZ.out w6 hg6);have t0:wr.cell? ⟨g,0,none⟩=some (.int .i64 yf.op):=HOWN.out.cellAt 0 (by simp);have t1:wr.cell? ⟨g,1,none⟩=some (.string yf.name):=HOWN.out.cellAt 1 (by simp);have t2:wr.cell? ⟨g,2,none⟩=some (.int .i64 yf.cmp):=HOWN.out.cellAt 2 (by simp);have t3:wr.cell? ⟨g,3,none⟩=some (.int .i64 yf.n):=HOWN.out.cellAt 3 (by simp);have t4:wr.cell? ⟨g,4,none⟩=some (.slice yao yf.kids.length ycap):=HOWN.out.cellAt 4 (by simp);clear hw6 hB6 hg6 hgv;go_wp2;rw[<-HW6.out];have q0:=HB6.out.cell 0;have q1:=HB6.out.cell 1;have q2:=HB6.out.cell 2;have q3:=HB6.out.cell 3;have q4:=HB6.out.cell 4;clear HW6 r0 r1 r2 r3 r4 f0 f1 f2 f3 f4 g0 t0 t1 t2 t3 t4;refine bodyPost_ret (results_cell1 (v:=.agg #[.int .i64 yf.op,.string yf.name,.int .i64 yf.cmp,.int .i64 yf.n,.slice yao yf.kids.length ycap]) rfl _ _ _ rfl (by go_simp;try rfl)) rfl ⟨_,rfl,?_,HBF.out⟩;rw[HG.out,HJR.out];exact HFI.out
    ·have HJ2:=Lib.hid (show joinR 6 1 ((y::y2::ys).map (·.f))=.mk 6 nilB 0 0 ((y::y2::ys).map (·.f))from rfl)
     have hx2:2<=(y::y2::ys).length:=by simp
     generalize y::y2::ys=zs at*
     have z0:((zs.length:Int)==0)=false:=by rw[beq_eq_false_iff_ne];omega
     have z1:((zs.length:Int)==1)=false:=by rw[beq_eq_false_iff_ne];omega
     obtain⟨w6,hw6,hB6,hg6⟩:=H6.out (.int .i64 6) (.string ⟨#[]⟩) (.int .i64 0) (.int .i64 0) (.slice va zs.length vcap);have HW6:=Lib.hid hw6;have HB6:=Lib.hid hB6;have HFI:=Lib.hid (HST.out w6 (.mk 6 nilB 0 0 (zs.map (·.f))) _ hg6 (own_fo HOWN.out (fun g hg=>.inr (own_isFo HOWN.out g hg)) HOK.out ⟨by decide,by decide⟩ ⟨by decide,by decide⟩ ⟨by decide,by decide⟩ (by decide)));have HBF:=Lib.hid (HBZ.out w6 hg6);clear hw6 hB6 hg6;go_wp2;rw[<-HW6.out];have q0:=HB6.out.cell 0;have q1:=HB6.out.cell 1;have q2:=HB6.out.cell 2;have q3:=HB6.out.cell 3;have q4:=HB6.out.cell 4;clear HW6 r0 r1 r2 r3 r4 f0 f1 f2 f3 f4 g0;refine bodyPost_ret (results_cell1 (v:=.agg #[.int .i64 6,.string nilB,.int .i64 0,.int .i64 0,.slice va zs.length vcap]) rfl _ _ _ rfl (by go_simp;try rfl)) rfl ⟨_,rfl,?_,HBF.out⟩;rw[HG.out,HJR.out,HJ2.out];exact HFI.out
 ·go_enter Tryz.func152,Tryz.ntmps152
  go_upto_region 17 with(fail);rw[HWS.out];clear HWS
  go_loopw [10,63] (fun ov iv wr=>∃(j:Nat) (xs:List FoA),j<=ks.length/\ iv=.int .i64 j/\ xs.length<=j/\ Hid (JoS P (W.heap.size+2) (givF nm x) 2 1 ks wS j xs ov wr)) (fun _ iv _=>ks.length-(intOf iv).toNat)
  case atStart=>exact⟨0,[],by omega,rfl,by simp,HJ0⟩
  case round=>
   obtain⟨j,xs,hj,rfl,hxl,hJ⟩:=hrel;have hsr:=hJ.out.bel.size;have hbWr:=HBS.out.trans (hJ.out.bel.mono (by omega));have hRr:Blk wr (W.heap.size+1) 47 #[.int .i64 0,.string ⟨#[]⟩,.int .i64 0,.int .i64 0,.slice none 0 0]:=(hJ.out.bel.block _ (by omega)).trans HR.out;have hFr:Blk wr W.heap.size 47 #[.int .i64 7,.string nilB,.int .i64 0,.int .i64 0,.slice ao ks.length cap]:=(hJ.out.bel.block _ (by omega)).trans HF.out;have HRR:=Lib.hid hRr;have HFR:=Lib.hid hFr;have HBW:=Lib.hid hbWr;clear HJ0 hRr hFr;by_cases hlt:j<ks.length
   ·obtain⟨b,off,rfl,hPb,hL⟩:=HK.out (by intro e;rw[e]at hlt;simp at hlt)
    obtain⟨ka,kc,c0,c1,c2,c3,c4,hKid⟩:=Fo.InPL.get ks off j hlt hL;have hbP:=hP b hPb;have d0:=(hbWr.cell (p:=⟨b,off+j*5,none⟩) hbP).trans c0;have d1:=(hbWr.cell (p:=⟨b,off+j*5+1,none⟩) hbP).trans c1;have d2:=(hbWr.cell (p:=⟨b,off+j*5+2,none⟩) hbP).trans c2;have d3:=(hbWr.cell (p:=⟨b,off+j*5+3,none⟩) hbP).trans c3;have d4:=(hbWr.cell (p:=⟨b,off+j*5+4,none⟩) hbP).trans c4
    have HI:=Lib.hid (HIH.out ks[j] (List.getElem_mem _) _ (wr.alloc (.cells #[.int .i64 ks[j].op,.string ks[j].name,.int .i64 ks[j].cmp,.int .i64 ks[j].n,.slice ka ks[j].kids.length kc] 47)) (fun b hb=>by have:=hP b hb;simp;omega)
     (Fo.InP.step (same_below hP (hbWr.alloc (by omega) _)) (fun _ h=>h) _ _ hKid))
    have HZ:=Lib.hid (fun(hz:(givF nm x ks[j]).op=1)=>join_zero (op:=7) (unit:=2) hlt hJ.out.nz hz);have HSK:=Lib.hid (fun(w5:World) (hb:Below wr.heap.size wr w5) (hu:(givF nm x ks[j]).op=2) hz=>hJ.out.skip (by omega) HP.out hb hlt hu hz);have HPU:=Lib.hid (fun(w5 w7:World) (hb:Below wr.heap.size wr w5) (hu:(givF nm x ks[j]).op≠2) hz (y:FoA) (hy:y.f=givF nm x ks[j]) (hok:y.Ok w5 _) o v7 hown hg hat=>hJ.out.push (w7:=w7) (x:=y) (o:=o) (v7:=v7) (by omega) HP.out hb hlt hu hz hy hok hown hg hat);generalize givF nm x ks[j]=g at*
    have hbs2:b<wr.heap.size:=by omega
    clear c0 c1 c2 c3 c4 hKid hL hbWr hbP;go_upto_region 20 with(go_at_call 152;refine HI.out.mono ?_;rintro e w2 ⟨u,rfl,hu,hb2⟩;obtain⟨ua,uc,rfl,u1,u2,u3,u4,u5,u6,_⟩:=hu.shape;have HU:=Lib.hid hu;have HB2:=Lib.hid hb2;have hk2:=(Blk.new wr 47 #[.int .i64 ks[j].op,.string ks[j].name,.int .i64 ks[j].cmp,.int .i64 ks[j].n,.slice ka ks[j].kids.length kc]).below hb2;have r0:=hk2.cell 0;have r1:=hk2.cell 1;have r2:=hk2.cell 2;have r3:=hk2.cell 3;have r4:=hk2.cell 4;have f0:=hk2.frozen 0;have f1:=hk2.frozen 1;have f2:=hk2.frozen 2;have f3:=hk2.frozen 3;have f4:=hk2.frozen 4;obtain⟨w5,hw5,hB5,hg5⟩:=set5 hk2 (.int .i64 g.op) (.string g.name) (.int .i64 g.cmp) (.int .i64 g.n) (.slice ua g.kids.length uc);have HW5:=Lib.hid hw5;have HB5:=Lib.hid hB5;have HG5:=Lib.hid hg5;clear hu hb2 hk2 hw5 hB5 hg5);rw[<-HW5.out];clear HW5 r0 r1 r2 r3 r4 f0 f1 f2 f3 f4 HI d0 d1 d2 d3 d4;have hs2:wr.heap.size+1<=w2.heap.size:=by have:=HB2.out.size;rwa[World.size_alloc]at this
    have hs5:=HG5.out.size;have HB:=Lib.hid ((((Below.refl wr.heap.size wr).alloc (Nat.le_refl _) _).trans (HB2.out.mono (by rw[World.size_alloc];omega))).grown HG5.out (by omega) (fun k e=>by cases e;exact Nat.le_refl _))
    have HOK:Hid (FoA.Ok w5 (fun b=>P b\/(wr.heap.size<=b/\ isFo w5 b)) ⟨g,ua,uc⟩):=by
     refine Fo.InP.step (fun b hb=>?_) (fun b hb=>?_) _ _ HU.out
     ·rcases hb with h | ⟨h,h'⟩
      ·exact HG5.out.block b (by have:=hP b h;omega) (fun e=>by cases e;have:=hP _ h;omega)
      ·rw[World.size_alloc]at h;exact HG5.out.block b h'.lt (fun e=>by cases e;omega)
     ·rcases hb with h | ⟨h,h'⟩
      ·exact .inl h
      ·rw[World.size_alloc]at h;exact .inr ⟨by omega,h'.same (HG5.out.block b h'.lt (fun e=>by cases e;omega))⟩
    have t0:=HB5.out.cell 0;have t1:=HB5.out.cell 1;have t2:=HB5.out.cell 2;have t3:=HB5.out.cell 3;have t4:=HB5.out.cell 4;have hlt5:wr.heap.size<w5.heap.size:=by omega
    clear HB2 HG5 HU HB5;by_cases hz:g.op=1
    ·have hzz:(g.op==1)=true:=by rw[hz];rfl
     have hR5:=(HB.out.block _ (by omega)).trans HRR.out;have r0:=Blk.cell hR5 0;have r1:=Blk.cell hR5 1;have r2:=Blk.cell hR5 2;have r3:=Blk.cell hR5 3;have r4:=Blk.cell hR5 4;have f0:=Blk.frozen hR5 0;have f1:=Blk.frozen hR5 1;have f2:=Blk.frozen hR5 2;have f3:=Blk.frozen hR5 3;have f4:=Blk.frozen hR5 4;obtain⟨w6,hw6,hB6,hg6⟩:=set5 hR5 (.int .i64 g.op) (.string g.name) (.int .i64 g.cmp) (.int .i64 g.n) (.slice ua g.kids.length uc);have HW6:=Lib.hid hw6;have HB6:=Lib.hid hB6;have HBF:=Lib.hid ((HBW.out.trans (HB.out.mono (by omega))).grown hg6 (by omega) (fun k e=>by cases e;omega))
     have HFI:Hid (g.InP w6 (PN P W w6) (.agg #[.int .i64 g.op,.string g.name,.int .i64 g.cmp,.int .i64 g.n,.slice ua g.kids.length uc])):=by
      have hs6:=hg6.size;refine Fo.InP.step (fun b hb=>?_) (fun b hb=>?_) _ _ HOK.out
      ·rcases hb with h | ⟨h,h'⟩
       ·exact hg6.block b (by have:=hP b h;omega) (fun e=>by cases e;have:=hP _ h;omega)
       ·exact hg6.block b h'.lt (fun e=>by cases e;omega)
      ·rcases hb with h | ⟨h,h'⟩
       ·exact .inl h
       ·exact .inr ⟨by omega,h'.same (hg6.block b h'.lt (fun e=>by cases e;omega))⟩
     have HZQ:=Lib.hid (HZ.out hz);clear hR5 hw6 hB6 hg6 HSK HPU hJ hz HZ;go_wp2;rw[<-HW6.out];have q0:=HB6.out.cell 0;have q1:=HB6.out.cell 1;have q2:=HB6.out.cell 2;have q3:=HB6.out.cell 3;have q4:=HB6.out.cell 4;clear HW6 r0 r1 r2 r3 r4 f0 f1 f2 f3 f4 t0 t1 t2 t3 t4;refine bodyPost_ret (results_cell1 (v:=.agg #[.int .i64 g.op,.string g.name,.int .i64 g.cmp,.int .i64 g.n,.slice ua g.kids.length uc]) rfl _ _ _ rfl (by go_simp;try rfl)) rfl ⟨_,rfl,?_,HBF.out⟩;rw[HG.out,HZQ.out];exact HFI.out
    ·have hzz:(g.op==1)=false:=by simpa using hz
     by_cases hun:g.op=2
     ·have huu:(g.op==2)=true:=by rw[hun];rfl
      have HN:=Lib.hid (HSK.out w5 HB.out hun hz);clear HPU hJ hun hz HZ;go_wp2;go_roundw
      case rel=>exact⟨j+1,xs,by omega,by go_num,by omega,HN⟩
      case measure=>simp[intOf];omega
     ·have huu:(g.op==2)=false:=by simpa using hun
      have hbs:=run_buildSlice_fo ⟨g,ua,uc⟩;simp only[FoA.cells]at hbs;have HN:=Lib.hid (fun w7 v7 hown hg hat=>HPU.out w5 w7 HB.out hun hz ⟨g,ua,uc⟩ rfl HOK.out (.cells (FoA.mk g ua uc).cells.toArray 47) v7 hown hg hat);have HOW:=Lib.hid ((own_under hJ.out.own HB.out).alloc (.cells (FoA.mk g ua uc).cells.toArray 47));have hbase:W.heap.size+2<=(w5.alloc (.cells (FoA.mk g ua uc).cells.toArray 47)).heap.size:=by simp;omega
      clear HPU hJ HSK hun hz HZ;go_wp2_with (at_builtin;refine wpList_append_own_at _ (by rfl) _ _ 45 (by rfl) (W.heap.size+2) 47 i0 _ 5 64 Tryz.underlying45 hi0 hz0 hz1 hz2 rfl (by decide) _ xs.length _ (by rfl) HOW.out ⟨w5.heap.size,0,none⟩ 1 1 (FoA.mk g ua uc).cells (by rfl) (by rfl) (fo_new ⟨g,ua,uc⟩ w5) (by intro u hu;simp[FoA.cells]at hu;rcases hu with rfl | rfl | rfl | rfl | rfl<;>rfl) (by unfold maxLen;omega) (by omega) hbase ?_;intro v7 w7 hown7 hgrow7 hnil7 hat7;refine Hid.out ?_);refine Lib.hid ?_;have HN2:=Lib.hid (HN.out w7 v7 hown7 hgrow7 hat7);clear hown7 hgrow7 hnil7 hat7;go_wp2;go_roundw
      case rel=>exact⟨j+1,xs++[⟨g,ua,uc⟩],by omega,by go_num,by simp;omega,HN2⟩
      case measure=>simp[intOf];omega
   ·obtain rfl:j=ks.length:=by omega
    have hmap:=hJ.out.map;rw[List.take_length]at hmap;have HJR:=Lib.hid (join_rest (op:=7) (unit:=2) (fun k hk=>hJ.out.nz k (by rw[List.take_length];exact hk)) hmap);have HOWN:=Lib.hid hJ.out.own;have HOK:=Lib.hid (fun y hy=>(hJ.out.ok y hy).step (Q:=fun b=>P b\/(W.heap.size+2<=b/\ isFo wr b)) (fun _ _=>rfl) (fun b h=>h.1));obtain⟨va,vcap,hva⟩:=own_len hJ.out.own;have r0:=HRR.out.cell 0;have r1:=HRR.out.cell 1;have r2:=HRR.out.cell 2;have r3:=HRR.out.cell 3;have r4:=HRR.out.cell 4;have f0:=HRR.out.frozen 0;have f1:=HRR.out.frozen 1;have f2:=HRR.out.frozen 2;have f3:=HRR.out.frozen 3;have f4:=HRR.out.frozen 4;have g0:=HFR.out.cell 0;have H6:=Lib.hid (fun v0 v1 v2 v3 v4=>set5 HRR.out v0 v1 v2 v3 v4)
    have HST:Hid (∀(w6:World) (f:Fo) (v:Value),wr.grownBy w6 (some (W.heap.size+1))->f.InP wr (fun b=>P b\/(W.heap.size+2<=b/\ isFo wr b)) v->f.InP w6 (PN P W w6) v):=fun w6 f v hg hf=>by
     have hs6:=hg.size;refine Fo.InP.step (fun b hb=>?_) (fun b hb=>?_) _ _ hf
     ·rcases hb with h | ⟨h,h'⟩
      ·exact hg.block b (by have:=hP b h;omega) (fun e=>by cases e;have:=hP _ h;omega)
      ·exact hg.block b h'.lt (fun e=>by cases e;omega)
     ·rcases hb with h | ⟨h,h'⟩
      ·exact .inl h
      ·exact .inr ⟨by omega,h'.same (hg.block b h'.lt (fun e=>by cases e;omega))⟩
    have HBZ:Hid (∀w6,wr.grownBy w6 (some (W.heap.size+1))->Below W.heap.size W w6):=fun w6 hg=>HBW.out.grown hg (by omega) (fun k e=>by cases e;omega)
    subst hva;clear hmap hbWr hJ;rcases xs with _ | ⟨y,_ | ⟨y2,ys⟩⟩
    ·obtain⟨w6,hw6,hB6,hg6⟩:=H6.out (.int .i64 2) (.string ⟨#[]⟩) (.int .i64 0) (.int .i64 0) (.slice none 0 0)
     have HW6:=Lib.hid hw6;have HB6:=Lib.hid hB6;have HFI:=Lib.hid (HST.out w6 (.mk 2 nilB 0 0 []) (.agg #[.int .i64 2,.string nilB,.int .i64 0,.int .i64 0,.slice none 0 0]) hg6 ⟨none,0,rfl,⟨by decide,by decide⟩,⟨by decide,by decide⟩,⟨by decide,by decide⟩,by decide,Nat.zero_le _,Nat.zero_le _,fun e=>absurd rfl e⟩);have HBF:=Lib.hid (HBZ.out w6 hg6);clear hw6 hB6 hg6;go_wp2;rw[<-HW6.out];have q0:=HB6.out.cell 0;have q1:=HB6.out.cell 1;have q2:=HB6.out.cell 2;have q3:=HB6.out.cell 3;have q4:=HB6.out.cell 4;clear HW6 r0 r1 r2 r3 r4 f0 f1 f2 f3 f4 g0;refine bodyPost_ret (results_cell1 (v:=.agg #[.int .i64 2,.string nilB,.int .i64 0,.int .i64 0,.slice none 0 0]) rfl _ _ _ rfl (by go_simp;try rfl)) rfl ⟨_,rfl,?_,HBF.out⟩;rw[HG.out,HJR.out];exact HFI.out
    ·obtain⟨yf,yao,ycap⟩:=y
     obtain⟨g,cp,hgv,hg1,hg2⟩:=HOWN.out.form (by simp);obtain⟨rfl,rfl⟩:va=some ⟨g,0,none⟩/\ vcap=cp:=by simpa using hgv
     obtain⟨w6,hw6,hB6,hg6⟩:=H6.out (.int .i64 yf.op) (.string yf.name) (.int .i64 yf.cmp) (.int .i64 yf.n) (.slice yao yf.kids.length ycap);have HW6:=Lib.hid hw6;have HB6:=Lib.hid hB6;have HFI:=Lib.hid (HST.out w6 yf _ hg6 (HOK.out _ (List.mem_cons_self ..)));have HBF:=Lib.hid (HBZ.out w6 hg6);have t0:wr.cell? ⟨g,0,none⟩=some (.int .i64 yf.op):=HOWN.out.cellAt 0 (by simp);have t1:wr.cell? ⟨g,1,none⟩=some (.string yf.name):=HOWN.out.cellAt 1 (by simp);have t2:wr.cell? ⟨g,2,none⟩=some (.int .i64 yf.cmp):=HOWN.out.cellAt 2 (by simp);have t3:wr.cell? ⟨g,3,none⟩=some (.int .i64 yf.n):=HOWN.out.cellAt 3 (by simp);have t4:wr.cell? ⟨g,4,none⟩=some (.slice yao yf.kids.length ycap):=HOWN.out.cellAt 4 (by simp);clear hw6 hB6 hg6 hgv;go_wp2;rw[<-HW6.out];have q0:=HB6.out.cell 0;have q1:=HB6.out.cell 1;have q2:=HB6.out.cell 2;have q3:=HB6.out.cell 3;have q4:=HB6.out.cell 4;clear HW6 r0 r1 r2 r3 r4 f0 f1 f2 f3 f4 g0 t0 t1 t2 t3 t4;refine bodyPost_ret (results_cell1 (v:=.agg #[.int .i64 yf.op,.string yf.name,.int .i64 yf.cmp,.int .i64 yf.n,.slice yao yf.kids.length ycap]) rfl _ _ _ rfl (by go_simp;try rfl)) rfl ⟨_,rfl,?_,HBF.out⟩;rw[HG.out,HJR.out];exact HFI.out
    ·have HJ2:=Lib.hid (show joinR 7 2 ((y::y2::ys).map (·.f))=.mk 7 nilB 0 0 ((y::y2::ys).map (·.f))from rfl)
     have hx2:2<=(y::y2::ys).length:=by simp
     generalize y::y2::ys=zs at*
     have z0:((zs.length:Int)==0)=false:=by rw[beq_eq_false_iff_ne];omega
     have z1:((zs.length:Int)==1)=false:=by rw[beq_eq_false_iff_ne];omega
     obtain⟨w6,hw6,hB6,hg6⟩:=H6.out (.int .i64 7) (.string ⟨#[]⟩) (.int .i64 0) (.int .i64 0) (.slice va zs.length vcap);have HW6:=Lib.hid hw6;have HB6:=Lib.hid hB6;have HFI:=Lib.hid (HST.out w6 (.mk 7 nilB 0 0 (zs.map (·.f))) _ hg6 (own_fo HOWN.out (fun g hg=>.inr (own_isFo HOWN.out g hg)) HOK.out ⟨by decide,by decide⟩ ⟨by decide,by decide⟩ ⟨by decide,by decide⟩ (by decide)));have HBF:=Lib.hid (HBZ.out w6 hg6);clear hw6 hB6 hg6;go_wp2;rw[<-HW6.out];have q0:=HB6.out.cell 0;have q1:=HB6.out.cell 1;have q2:=HB6.out.cell 2;have q3:=HB6.out.cell 3;have q4:=HB6.out.cell 4;clear HW6 r0 r1 r2 r3 r4 f0 f1 f2 f3 f4 g0;refine bodyPost_ret (results_cell1 (v:=.agg #[.int .i64 7,.string nilB,.int .i64 0,.int .i64 0,.slice va zs.length vcap]) rfl _ _ _ rfl (by go_simp;try rfl)) rfl ⟨_,rfl,?_,HBF.out⟩;rw[HG.out,HJR.out,HJ2.out];exact HFI.out
theorem size_kid (op c n:Int)(s:ByteArray)(ks:List Fo):∀k∈ks,k.size<(Fo.mk op s c n ks).size:=by
 intro k hk
 have:∀ks:List Fo,k∈ks->k.size<=Fo.sizeL ks:=by
  intro ks
  induction ks with
  | nil=>intro h;cases h
  | cons a l ih=>
   intro h;rw[Fo.sizeL];rcases List.mem_cons.1 h with rfl | h
   ·omega
   ·have:=ih h;omega
 have:=this ks hk;rw[Fo.size];omega
theorem size_len (op c n:Int)(s:ByteArray)(ks:List Fo):ks.length<(Fo.mk op s c n ks).size:=by
 have:∀ks:List Fo,ks.length<=Fo.sizeL ks:=by
  intro ks
  induction ks with
  | nil=>simp
  | cons a l ih=>
   rw[Fo.sizeL,List.length_cons];obtain⟨o,m,c,n,kk⟩:=a;rw[Fo.size];omega
 have:=this ks;rw[Fo.size];omega
theorem given_any (P:Nat->Prop)(nm:ByteArray)(x:Int)(d:List Fa):∀(N:Nat) (f:Fo),f.size<=N->N<=100000->WfF d f->GivW P nm x f:=by
 intro N
 induction N with
 | zero=>intro f h;obtain⟨op,s,c,n,ks⟩:=f;rw[Fo.size]at h;omega
 | succ N ih=>
  intro f h hN hw;obtain⟨op,s,c,n,ks⟩:=f;have hk:=size_kid op c n s ks;have hlen:=size_len op c n s ks;have hI:WfL d ks->∀k∈ks,GivW P nm x k:=fun hl k hm=>ih k (by have:=hk k hm;omega) (by omega) ((WfL_iff d ks).1 hl k hm)
  rw[WfF]at hw;rcases hw with⟨h1,rfl,rfl,rfl,rfl⟩ | ⟨rfl,h1,_,_,_,rfl⟩ | ⟨h1,rfl,rfl,rfl,h2⟩
  ·exact giv_leaf P nm x op 0 0 nilB (by rcases h1 with h | h<;>simp[h]) (fun e=>by rcases h1 with h | h<;>omega)
  ·exact giv_leaf P nm x 3 c n s (by simp) (fun _=>h1)
  ·rcases h1 with⟨rfl,hl⟩ | ⟨h1,hl⟩
   ·match ks,hl with
    | [k],_=>exact giv_not P nm x k (hI h2 k (List.mem_cons_self ..))
   ·rcases h1 with rfl | rfl
    ·exact giv_join P nm x 6 1 2 (.inl ⟨rfl,rfl,rfl⟩) ks (hI h2) (by omega)
    ·exact giv_join P nm x 7 2 1 (.inr ⟨rfl,rfl,rfl⟩) ks (hI h2) (by omega)
end
end Go.Proofs.YtihniipjfdenbaaGreatDoor
