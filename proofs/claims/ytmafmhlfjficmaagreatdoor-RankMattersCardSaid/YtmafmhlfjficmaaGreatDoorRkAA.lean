/- The walk of the court: why. A bound on the conditions' sizes. -/
import Derived.Test.YtmafmhlfjficmaaGreatDoorRkSA
import Derived.Test.YtmafmhlfjficmaaGreatDoorDgAV
import Derived.Test.YtmafmhlfjficmaaGreatDoorMemA
import Derived.Deep.MidRow
set_option maxRecDepth 100000
set_option maxHeartbeats 4000000
namespace Go.Proofs.YtmafmhlfjficmaaGreatDoor
section
open Go.RowKit
theorem kk_new {W W' W'':World}{KB:Nat}(h:Hid (StepK KB W W'))(hb:Below W'.heap.size W' W''):Hid (StepK KB W W''):=h.out.trans (StepK.of_below hb)
variable {w0 W : World} {B CB KB : Nat} {d : List Fa} {ps : List Pv} {ts : List Int} {c0 c1 c2 : Value}
theorem court_alone (hE:CtE w0 B CB KB d ps ts c0 c1 c2)(hS:StK w0 KB d ps W)(i j:Nat)(hi:i<ps.length)(hj:j<ps.length)(hsz:∀p∈ps,p.cond.size<=1000000):
  Calls Tryz.prog 52 #[.pointer (some ⟨CB,0,none⟩),.int .i64 i,.int .i64 j] W fun e W'=>e=.returned (.tuple #[.bool (aloneD d (condP ps) i j).1,.int .i64 (aloneD d (condP ps) i j).2])/\ Hid (StK w0 KB d ps W')/\ Hid (StepK KB W W'):=by
 have HE:=Lib.hid hE;have hKB:=hE.ltK;have HD1:=Lib.hid (court_diagram hE hS i hi (hsz _ (List.getElem_mem hi)));have HD2:=Lib.hid (fun w' (h:StK w0 KB d ps w')=>court_diagram hE h j hj (hsz _ (List.getElem_mem hj)));obtain⟨RR,hRR⟩:∃RR,aloneD d (condP ps) i j=RR:=⟨_,rfl⟩;rw[hRR];have HRR:=Lib.hid hRR;have hs0:=hS.size;clear hE hRR hsz;obtain⟨BI,hBI⟩:∃BI,buildX d (condP ps i)=BI:=⟨_,rfl⟩;obtain⟨BJ,hBJ⟩:∃BJ,buildX d (condP ps j)=BJ:=⟨_,rfl⟩;rw[hBI]at HD1;rw[hBJ]at HD2;have HBI:=Lib.hid hBI;have HBJ:=Lib.hid hBJ;clear hBI hBJ hS;obtain⟨tx,ex⟩:=BI;obtain⟨ty,ey⟩:=BJ;simp only at HD1 HD2;go_enter Tryz.func52,Tryz.ntmps52;go_upto_region 2 with(go_at_call 68;refine HD1.out.mono ?_;rintro e w1 ⟨ax,kx,rfl,HG1,HK1,HP1⟩);have hs1:W.heap.size<=w1.heap.size:=HP1.out.size;have HX:=dgv_new HG1;have hn1:Below w1.heap.size w1 (w1.alloc (.cells #[.slice ax tx.length kx] 92)):=(Below.refl _ _).alloc (Nat.le_refl _) _;have HK2:=Lib.hid (HK1.out.more hn1);have HP2:=kk_new HP1 hn1;by_cases hx:ex=0
 ·subst hx
  go_upto_region 5 with(go_at_call 68;refine(HD2.out _ HK2.out).mono ?_;rintro e w3 ⟨ay,ky,rfl,HG3,HK3,HP3⟩);have hs3:w1.heap.size+1<=w3.heap.size:=by have:=HP3.out.size;rwa[World.size_alloc]at this
  obtain⟨l2,hm2,_⟩:=HK2.out.map;have HX3:=Lib.hid (HX.out.stepK hm2 HP3.out (by omega));clear hm2;have HY:=dgv_new HG3;have hn3:Below w3.heap.size w3 (w3.alloc (.cells #[.slice ay ty.length ky] 92)):=(Below.refl _ _).alloc (Nat.le_refl _) _;have HX4:=Lib.hid (HX3.out.step hn3);have HK4:=Lib.hid (HK3.out.more hn3);have HP4:=kk_new (Lib.hid (HP2.out.trans HP3.out)) hn3;clear HX HX3 HG1 HG3 HK1 HP1 HK2 HP2 HK3 HP3 hn1 hn3 HD1 HD2;generalize w3.alloc (.cells #[.slice ay ty.length ky] 92)=W4 at*
  generalize w3.heap.size=Y at*
  generalize w1.heap.size=X at*
  by_cases hy:ey=0
  ·subst hy
   have VX:Hid (ValidG d tx):=(by have q:=(buildX_ok (d:=d) (f:=condP ps i) (by rw[HBI.out])).1;rw[HBI.out]at q;exact q);have VY:Hid (ValidG d ty):=(by have q:=(buildX_ok (d:=d) (f:=condP ps j) (by rw[HBJ.out])).1;rw[HBJ.out]at q;exact q);have VN:=Lib.hid (not_valid VY.out).1;obtain⟨ad,cd,hc0,_⟩:=SlIn.shape HE.out.dom;subst hc0
   have HKP:Hid (∀w',Below W4.heap.size W4 w'->w'.cell? ⟨X,0,none⟩=some (.slice ax tx.length kx)/\ w'.cell? ⟨Y,0,none⟩=some (.slice ay ty.length ky)/\ w'.cell? ⟨CB,0,none⟩=some (.slice ad d.length cd)):=fun w' hb=>
    ⟨(HX4.out.step hb).box.cell 0,(HY.out.step hb).box.cell 0,((HK4.out.more hb).court HE.out).cell 0⟩
   have HNOT:Hid (∀w',Hid (Below W4.heap.size W4 w')->Calls Tryz.prog 70 #[.agg #[.slice ay ty.length ky]] w' fun e w''=>∃(a:Option Addr) (k:Nat),e=.returned (.agg #[.slice a (notD ty).length k])/\ Hid (DgIn w'' w''.heap.size (notD ty) (.agg #[.slice a (notD ty).length k]))/\ Hid (Below w'.heap.size w' w'')/\ Hid (Below W4.heap.size W4 w'')):=fun w' hb=>by
    refine(notG_any (t:=ty) (by have:=VY.out.few;omega) (HY.out.step hb.out).dg).mono ?_;rintro e w'' ⟨a,k,rfl,h1,h2⟩;exact⟨a,k,rfl,h1,h2,hb.out.trans (h2.mono hb.out.size)⟩
   have HAND:Hid (∀w5 w' (a5:Option Addr) (k5:Nat),Hid (DgIn w5 w5.heap.size (notD ty) (.agg #[.slice a5 (notD ty).length k5]))->Hid (Below w5.heap.size w5 w')->Hid (Below W4.heap.size W4 w')->Calls Tryz.prog 69 #[.agg #[.slice ax tx.length kx],.agg #[.slice a5 (notD ty).length k5],.agg #[.slice ad d.length cd]] w' fun e w''=>
     ∃(a:Option Addr) (k:Nat),e=.returned (.tuple #[.agg #[.slice a (andX d tx (notD ty)).1.length k],.int .i64 (andX d tx (notD ty)).2])/\ Hid (DgIn w'' w''.heap.size (andX d tx (notD ty)).1 (.agg #[.slice a (andX d tx (notD ty)).1.length k]))/\ Hid (Below w'.heap.size w' w'')/\ Hid (Below W4.heap.size W4 w'')):=fun w5 w' a5 k5 hd h5 hb=>by
    have hkb:=(HK4.out.more hb.out).base HE.out;have hBs:=HE.out.hB;have hCs:=HE.out.lt;have hws:=(HK4.out.more hb.out).size;refine(andX_any (w:=w') (HX4.out.step hb.out).dg ((hd.out.below h5.out).mono h5.out.size) ⟨_,rfl,(HE.out.dom.below FaR.kept hkb).mono FaR.mono (by omega)⟩ (fun w'' h=>HE.out.tab w'' (hkb.trans (h.mono (by omega)))) (valid_64 VX.out) (valid_64 VN.out)).mono ?_;rintro e w'' ⟨a,k,rfl,h1,h2⟩;exact⟨a,k,rfl,h1,h2,hb.out.trans (h2.mono hb.out.size)⟩
   have z8:=HX4.out.box.cell 0;go_upto_region 7 with(fail);clear z8
   go_cut[9,11] (fun s9 s11 wx=>∃(Z:Nat) (a:Option Addr) (k:Nat),s9=.int .i64 (andX d tx (notD ty)).2/\ s11=.pointer (some ⟨Z,0,none⟩)/\ Hid (DgV wx Z (andX d tx (notD ty)).1 a k)/\ Hid (Below W4.heap.size W4 wx)/\ Hid (W4.heap.size<=Z))
   case first=>
    refine wp_region_held_drew (S:=(fun w':World=>Hid (Below W4.heap.size W4 w'))) (by kernel_rfl) (Lib.hid ((Below.refl W4.heap.size W4).drew)) (fun hHeld=>?_);refine tk 0 ?v7x0 ?y7x0 ?_
    case y7x0=>(intro w9 hSw;obtain⟨y0,y1,y2⟩:=HKP.out w9 hSw.out;go_simp;try with_reducible rfl)
    refine tk 1 ?v7x1 ?y7x1 ?_
    case y7x1=>(intro w9 hSw;obtain⟨y0,y1,y2⟩:=HKP.out w9 hSw.out;go_simp;try with_reducible rfl)
    refine tp 3 ?_;refine tk 4 ?v7x4 ?y7x4 ?_
    case y7x4=>(intro w9 hSw;obtain⟨y0,y1,y2⟩:=HKP.out w9 hSw.out;go_simp;try with_reducible rfl)
    refine tp 5 ?_;refine tp 6 ?_;refine tk 7 ?v7x7 ?y7x7 ?_
    case y7x7=>(intro w9 hSw;obtain⟨y0,y1,y2⟩:=HKP.out w9 hSw.out;go_simp;try with_reducible rfl)
    refine tt 2 12 (fun K hK=>?_) (fun K hK=>?_)
    ·skip
     (go_simp;go_at_call 70;refine(HNOT.out _ (by first | assumption | exact Lib.hid ((Below.refl _ _).drew) | exact hid_drew_alloc _ _ | exact hid_alloc (by assumption) _)).mono ?_;rintro e w5 ⟨a5,k5,rfl,HD5,HB5,HC5⟩;first | (have HA5:Hid (Blk w5 W4.heap.size _ _):=hd_newd HB5.out;have HL5:Hid (W4.heap.size<=W4.heap.size):=Nat.le_refl _) | (have HA5:Hid (Blk w5 W4.drew.heap.size _ _):=hd_new HB5.out;have HL5:Hid (W4.heap.size<=W4.drew.heap.size):=(Below.refl W4.heap.size W4).drew.size) | skip)
     refine hK.out _ _ ?_ (fun hHeld=>?_)
     ·exact HC5
     clear hK K
     try simp only[Act.put,sA,sB,sC]
     refine tt 8 12 (fun K hK=>?_) (fun K hK=>?_)
     ·skip
      (go_simp;go_at_call 69;refine(HAND.out w5 _ _ _ HD5 (by first | exact Lib.hid (Below.refl _ _) | exact hid_alloc (Lib.hid (Below.refl _ _)) _) (by first | assumption | exact Lib.hid ((Below.refl _ _).drew) | exact hid_drew_alloc _ _ | exact hid_alloc (by assumption) _)).mono ?_;rintro e w8 ⟨a8,k8,rfl,HD8,HB8,HC8⟩;first | (have HA8:=Lib.hid (HA5.out.below HB8.out);have HL8:=HL5) | (have HA8:Hid (Blk w8 w5.heap.size _ _):=hd_new HB8.out;have HL8:Hid (W4.heap.size<=w5.heap.size):=Lib.hid HC5.out.size) | have FLAG:(0:Nat)=0:=rfl)
      refine hK.out _ _ ?_ (fun hHeld=>?_)
      ·exact HC8
      clear hK K
      try simp only[Act.put,sA,sB,sC]
      refine tp 9 ?_;refine tp 10 ?_;refine tp 11 ?_;refine tr 12 (fun K hK=>?_)
      go_simp
      refine hK.out _ _ ?_ (fun hHeld=>?_)
      ·first | exact hid_alloc HC8 _ | exact hid_alloc HC5 _ | exact(by first | assumption | exact Lib.hid ((Below.refl _ _).drew) | exact hid_drew_alloc _ _ | exact hid_alloc (by assumption) _)
      clear hK K
      try simp only[Act.put,sA,sB,sC]
      refine tr 13 (fun K hK=>?_)
      (first | (have zz:(0:Nat)=0:=FLAG;clear zz;go_simp) | (have cz:=HA8.out.cell 0;have fz:=HA8.out.frozen 0;go_simp))
      refine hK.out _ _ ?_ (fun hHeld=>?_)
      ·first | exact hd_set HC8 HL8 | exact hid_alloc HC8 _
      clear hK K
      try simp only[Act.put,sA,sB,sC]
      refine tp 14 ?_;refine wpAnyH_done (by kernel_rfl) ?_ _
      (go_wp2;go_meet;first | exact⟨_,_,_,rfl,rfl,dgv_set HA8 HD8,hd_set HC8 HL8,HL8⟩ | exact⟨_,_,_,rfl,rfl,dgv_new HD8,hid_alloc HC8 _,Lib.hid HC8.out.size⟩)
     ·skip
      go_simp
      refine hK.out _ _ ?_ (fun hHeld=>?_)
      ·first | exact hid_alloc HC8 _ | exact hid_alloc HC5 _ | exact(by first | assumption | exact Lib.hid ((Below.refl _ _).drew) | exact hid_drew_alloc _ _ | exact hid_alloc (by assumption) _)
      clear hK K
      try simp only[Act.put,sA,sB,sC]
      refine tr 8 (fun K hK=>?_)
      (go_simp;go_at_call 69;refine(HAND.out w5 _ _ _ HD5 (by first | exact Lib.hid (Below.refl _ _) | exact hid_alloc (Lib.hid (Below.refl _ _)) _) (by first | assumption | exact Lib.hid ((Below.refl _ _).drew) | exact hid_drew_alloc _ _ | exact hid_alloc (by assumption) _)).mono ?_;rintro e w8 ⟨a8,k8,rfl,HD8,HB8,HC8⟩;first | (have HA8:=Lib.hid (HA5.out.below HB8.out);have HL8:=HL5) | (have HA8:Hid (Blk w8 w5.heap.size _ _):=hd_new HB8.out;have HL8:Hid (W4.heap.size<=w5.heap.size):=Lib.hid HC5.out.size) | have FLAG:(0:Nat)=0:=rfl)
      refine hK.out _ _ ?_ (fun hHeld=>?_)
      ·exact HC8
      clear hK K
      try simp only[Act.put,sA,sB,sC]
      refine tp 9 ?_;refine tp 10 ?_;refine tp 11 ?_;refine tr 13 (fun K hK=>?_)
      (first | (have zz:(0:Nat)=0:=FLAG;clear zz;go_simp) | (have cz:=HA8.out.cell 0;have fz:=HA8.out.frozen 0;go_simp))
      refine hK.out _ _ ?_ (fun hHeld=>?_)
      ·first | exact hd_set HC8 HL8 | exact hid_alloc HC8 _
      clear hK K
      try simp only[Act.put,sA,sB,sC]
      refine tp 14 ?_;refine wpAnyH_done (by kernel_rfl) ?_ _
      (go_wp2;go_meet;first | exact⟨_,_,_,rfl,rfl,dgv_set HA8 HD8,hd_set HC8 HL8,HL8⟩ | exact⟨_,_,_,rfl,rfl,dgv_new HD8,hid_alloc HC8 _,Lib.hid HC8.out.size⟩)
    ·skip
     go_simp
     refine hK.out _ _ ?_ (fun hHeld=>?_)
     ·first | exact hid_alloc HC8 _ | exact hid_alloc HC5 _ | exact(by first | assumption | exact Lib.hid ((Below.refl _ _).drew) | exact hid_drew_alloc _ _ | exact hid_alloc (by assumption) _)
     clear hK K
     try simp only[Act.put,sA,sB,sC]
     refine tr 2 (fun K hK=>?_)
     (go_simp;go_at_call 70;refine(HNOT.out _ (by first | assumption | exact Lib.hid ((Below.refl _ _).drew) | exact hid_drew_alloc _ _ | exact hid_alloc (by assumption) _)).mono ?_;rintro e w5 ⟨a5,k5,rfl,HD5,HB5,HC5⟩;first | (have HA5:Hid (Blk w5 W4.heap.size _ _):=hd_newd HB5.out;have HL5:Hid (W4.heap.size<=W4.heap.size):=Nat.le_refl _) | (have HA5:Hid (Blk w5 W4.drew.heap.size _ _):=hd_new HB5.out;have HL5:Hid (W4.heap.size<=W4.drew.heap.size):=(Below.refl W4.heap.size W4).drew.size) | skip)
     refine hK.out _ _ ?_ (fun hHeld=>?_)
     ·exact HC5
     clear hK K
     try simp only[Act.put,sA,sB,sC]
     refine tr 8 (fun K hK=>?_)
     (go_simp;go_at_call 69;refine(HAND.out w5 _ _ _ HD5 (by first | exact Lib.hid (Below.refl _ _) | exact hid_alloc (Lib.hid (Below.refl _ _)) _) (by first | assumption | exact Lib.hid ((Below.refl _ _).drew) | exact hid_drew_alloc _ _ | exact hid_alloc (by assumption) _)).mono ?_;rintro e w8 ⟨a8,k8,rfl,HD8,HB8,HC8⟩;first | (have HA8:=Lib.hid (HA5.out.below HB8.out);have HL8:=HL5) | (have HA8:Hid (Blk w8 w5.heap.size _ _):=hd_new HB8.out;have HL8:Hid (W4.heap.size<=w5.heap.size):=Lib.hid HC5.out.size) | have FLAG:(0:Nat)=0:=rfl)
     refine hK.out _ _ ?_ (fun hHeld=>?_)
     ·exact HC8
     clear hK K
     try simp only[Act.put,sA,sB,sC]
     refine tp 9 ?_;refine tp 10 ?_;refine tp 11 ?_;refine tr 13 (fun K hK=>?_)
     (first | (have zz:(0:Nat)=0:=FLAG;clear zz;go_simp) | (have cz:=HA8.out.cell 0;have fz:=HA8.out.frozen 0;go_simp))
     refine hK.out _ _ ?_ (fun hHeld=>?_)
     ·first | exact hd_set HC8 HL8 | exact hid_alloc HC8 _
     clear hK K
     try simp only[Act.put,sA,sB,sC]
     refine tp 14 ?_;refine wpAnyH_done (by kernel_rfl) ?_ _
     (go_wp2;go_meet;first | exact⟨_,_,_,rfl,rfl,dgv_set HA8 HD8,hd_set HC8 HL8,HL8⟩ | exact⟨_,_,_,rfl,rfl,dgv_new HD8,hid_alloc HC8 _,Lib.hid HC8.out.size⟩)
   case rest=>
    obtain⟨Z,az,kz,rfl,rfl,HZ,HBZ,HLZ⟩:=hcut;have HK6:=Lib.hid (HK4.out.more HBZ.out);have HP6:=kk_new HP4 HBZ.out
    have HAX:Hid (RR=aloneX d tx ty):=by
     show _=_
     rw[<-HRR.out];unfold aloneD;rw[HBI.out,HBJ.out]
     rfl
    clear HNOT HAND HKP;rename World=>W6
    obtain⟨G,hG⟩:∃G,andX d tx (notD ty)=G:=⟨_,rfl⟩;have HG:=Lib.hid hG;rw[hG]at HZ⊢;clear hG;obtain⟨tg,eg⟩:=G;simp only at HZ⊢;by_cases hg:eg=0
    ·subst hg
     have HEND:Hid (RR=((leastG d tg).isSome,0)):=by
      show _=_
      rw[HAX.out];unfold aloneX;rw[HG.out,if_pos rfl]
     have VG:Hid (ValidG d tg):=(by have q:=(andX_ok (d:=d) (a:=tx) (b:=notD ty) (by rw[HG.out])).2.2.1;rw[HG.out]at q;exact q)
     have HKQ:Hid (∀w',Below W6.heap.size W6 w'->w'.cell? ⟨Z,0,none⟩=some (.slice az tg.length kz)/\ w'.cell? ⟨CB,0,none⟩=some (.slice ad d.length cd)):=fun w' hb=>
      ⟨(HZ.out.step hb).box.cell 0,((HK6.out.more hb).court HE.out).cell 0⟩
     have HLS:Hid (∀w',Hid (Below W6.heap.size W6 w')->Calls Tryz.prog 71 #[.agg #[.slice az tg.length kz],.agg #[.slice ad d.length cd]] w' fun e w''=>∃cv,e=.returned (.tuple #[cv,.bool (leastG d tg).isSome])/\ Hid (Below W6.heap.size W6 w'')):=fun w' hb=>by
      have hkb:=(HK6.out.more hb.out).base HE.out;have hBs:=HE.out.hB;have hCs:=HE.out.lt;have hws:=(HK6.out.more hb.out).size;refine(leastG_any d tg _ _ w' w'.heap.size (Nat.le_refl _) (HZ.out.step hb.out).dg ⟨_,rfl,(HE.out.dom.below FaR.kept hkb).mono FaR.mono (by omega)⟩ (valid_64 VG.out) (fun w'' h=>HE.out.tab w'' (hkb.trans (h.mono (by omega))))).mono ?_;rintro e w'' ⟨cv,rfl,_,h2⟩;exact⟨cv,rfl,hb.out.trans (h2.mono hb.out.size)⟩
     generalize leastG d tg=LG at*
     go_upto_region 10 with(fail);refine wp_region_held_drew (S:=(fun w':World=>Hid (Below W6.heap.size W6 w'))) (by kernel_rfl) (Lib.hid ((Below.refl W6.heap.size W6).drew)) (fun hHeld=>?_);refine tk 0 ?v10x0 ?y10x0 ?_
     case y10x0=>(intro w9 hSw;obtain⟨y0,y1⟩:=HKQ.out w9 hSw.out;go_simp;try with_reducible rfl)
     refine tp 1 ?_;refine tk 2 ?v10x2 ?y10x2 ?_
     case y10x2=>(intro w9 hSw;obtain⟨y0,y1⟩:=HKQ.out w9 hSw.out;go_simp;try with_reducible rfl)
     refine tp 3 ?_;refine tp 4 ?_;refine tk 5 ?v10x5 ?y10x5 ?_
     case y10x5=>(intro w9 hSw;obtain⟨y0,y1⟩:=HKQ.out w9 hSw.out;go_simp;try with_reducible rfl)
     refine tr 6 (fun K hK=>?_)
     (go_simp;go_at_call 71;refine(HLS.out _ (by first | assumption | exact Lib.hid ((Below.refl _ _).drew) | exact hid_drew_alloc _ _ | exact hid_alloc (by assumption) _)).mono ?_;rintro e w9 ⟨cv,rfl,HB9⟩)
     refine hK.out _ _ ?_ (fun hHeld=>?_)
     ·exact HB9
     clear hK K
     try simp only[Act.put,sA,sB,sC]
     refine tp 7 ?_;refine tp 8 ?_;refine tp 9 ?_;refine tp 10 ?_;refine tp 11 ?_;refine wpAnyH_done (by kernel_rfl) ?_ _
     (go_wp2;go_ret2;exact⟨by rw[HEND.out];rfl,HK6.out.more HB9.out,HP6.out.trans (StepK.of_below HB9.out)⟩)
    ·have gE:(eg !=0)=true:=by simpa using hg
     have HEND:Hid (RR=(false,eg)):=by
      show _=_
      rw[HAX.out];unfold aloneX;rw[HG.out,if_neg hg]
     go_wp2;go_ret2;exact⟨by rw[HEND.out];rfl,HK6.out,HP6.out⟩
  ·have gE:(ey !=0)=true:=by simpa using hy
   have HEND:Hid (RR=(false,ey)):=by
    show _=_
    rw[<-HRR.out];unfold aloneD;rw[HBI.out,HBJ.out,if_pos rfl,if_neg hy]
   go_wp2;go_ret2;exact⟨by rw[HEND.out];rfl,HK4.out,HP4.out⟩
 ·have gE:(ex !=0)=true:=by simpa using hx
  have HEND:Hid (RR=(false,ex)):=by
   show _=_
   rw[<-HRR.out];unfold aloneD;rw[HBI.out,if_neg hx]
  go_wp2;go_ret2;exact⟨by rw[HEND.out];rfl,HK2.out,HP2.out⟩
end
section
open Go.RowKit
variable {w0 W : World} {B CB KB : Nat} {d : List Fa} {ps : List Pv} {ts : List Int} {c0 c1 c2 : Value}
theorem court_special (hE:CtE w0 B CB KB d ps ts c0 c1 c2)(hS:StK w0 KB d ps W)(i j:Nat)(hi:i<ps.length)(hj:j<ps.length)(hsz:∀p∈ps,p.cond.size<=1000000):
  Calls Tryz.prog 32 #[.pointer (some ⟨CB,0,none⟩),.int .i64 i,.int .i64 j] W fun e W'=>e=.returned (.tuple #[.bool (specD d (condP ps) i j).1,.bool (specD d (condP ps) i j).2.1,.int .i64 (specD d (condP ps) i j).2.2])/\ Hid (StK w0 KB d ps W')/\ Hid (StepK KB W W'):=by
 have HA1:=Lib.hid (court_alone hE hS i j hi hj hsz);have HA2:=Lib.hid (fun w' (h:StK w0 KB d ps w')=>court_alone hE h j i hj hi hsz);obtain⟨RR,hRR⟩:∃RR,specD d (condP ps) i j=RR:=⟨_,rfl⟩;rw[hRR];have HRR:Hid (specD d (condP ps) i j=RR):=hRR;unfold specD at HRR;obtain⟨⟨o1,e1⟩,h1⟩:∃X,aloneD d (condP ps) i j=X:=⟨_,rfl⟩;obtain⟨⟨o2,e2⟩,h2⟩:∃X,aloneD d (condP ps) j i=X:=⟨_,rfl⟩;rw[h1]at HA1;rw[h2]at HA2;rw[h1,h2]at HRR;simp only at HA1 HA2;clear hE hS hsz hRR h1 h2;go_enter Tryz.func32,Tryz.ntmps32;go_upto_region 2 with(go_at_call 52;refine HA1.out.mono ?_;rintro e w1 ⟨rfl,HK1,HP1⟩);by_cases h1:e1=0
 ·subst h1
  go_upto_region 5 with(go_at_call 52;refine(HA2.out _ HK1.out).mono ?_;rintro e w2 ⟨rfl,HK2,HP2⟩);by_cases h2:e2=0
  ·subst h2
   have HEND:Hid (RR=(!o1&& o2, !o1&& !o2,0)):=HRR.out.symm;clear HRR HA1 HA2;cases o1<;>cases o2<;>(go_wp2;refine bodyPost_ret (by simp[results,Tryz.results32,go_sem];try rfl) rfl ?_;exact⟨by rw[HEND.out];rfl,HK2,HP1.out.trans HP2.out⟩)
  ·have gE:(e2 !=0)=true:=by simpa using h2
   have HEND:Hid (RR=(false,false,e2)):=by
    show _=_
    rw[<-HRR.out];simp[h2]
   clear HRR HA1 HA2;go_wp2;refine bodyPost_ret (by simp[results,Tryz.results32,go_sem];try rfl) rfl ?_;exact⟨by rw[HEND.out],HK2,HP1.out.trans HP2.out⟩
 ·have gE:(e1 !=0)=true:=by simpa using h1
  have HEND:Hid (RR=(false,false,e1)):=by
   show _=_
   rw[<-HRR.out];simp[h1]
  clear HRR HA1 HA2;go_wp2;refine bodyPost_ret (by simp[results,Tryz.results32,go_sem];try rfl) rfl ?_;exact⟨by rw[HEND.out],HK1,HP1⟩
end
section
open Go.RowKit
theorem Blk.there {w:World}{b:Nat}{t:TypeId}{cs:Array Value}(h:Blk w b t cs):w.there b 0 cs.size:=fun j hj=>⟨by rw[Nat.zero_add,h.cell j];simpa using hj,h.frozen _⟩
theorem Blk.there23 {w:World}{b:Nat}{t:TypeId}{cs:Array Value}(h:Blk w b t cs)(hs:cs.size=23)(p:Pv)(ak:Option Addr)(ck:Nat)(ae:Option Addr)(ce:Nat):w.there b 0 (pvC p ak ck ae ce).toArray.size:=by
 rw[show(pvC p ak ck ae ce).toArray.size=23 from rfl, <-hs];exact h.there
theorem blk_drew {w:World}{b:Nat}{t:TypeId}{cs:Array Value}(h:Blk w b t cs):Blk w.drew b t cs:=h
theorem below_cells {B:Nat}{W:World}{b:Nat}(hb:B<=b):∀(vs:List Value) (o:Nat) (w:World),Below B W w->Below B W (w.setCells b o vs)
 | [],_,_,h=>h
 | v::vs,o,w,h=>by rw[World.setCells];exact below_cells hb vs (o+1) _ (h.setCell hb v)
theorem hid_cells {W w:World}(h:Hid (Below W.heap.size W w)){b:Nat}(hb:W.heap.size<=b)(o:Nat)(vs:List Value):Hid (Below W.heap.size W (w.setCells b o vs)):=below_cells hb vs o w h.out
theorem exec_load_mid {P:Program}{a:Act}{o:Oper}{ty:TypeId}{x:Operand}(ho:o.op=.load ty x){v p:Value}(hx:a.eval x=p){w:World}(h:(Instr.loadAt ty p).run P w=.ok v w):(execOp a.eval o).run P w=.ok (.value v) w:=by
 unfold execOp;simp only[ho,hx,Sem.run_bind,h,Result.andThen_ok,Sem.run_pure]
theorem Pv.infoR :(Tryz.prog.info? 50).map (·.size)=some 23:=by kernel_rfl
variable {w0 W : World} {B CB KB : Nat} {d : List Fa} {ps : List Pv} {ts : List Int} {c0 c1 c2 : Value}
theorem court_why (hE:CtE w0 B CB KB d ps ts c0 c1 c2)(hS:StK w0 KB d ps W)(i j:Nat)(hi:i<ps.length)(hj:j<ps.length)(hts:ts.length=ps.length)(hsz:∀p∈ps,p.cond.size<=1000000):
  Calls Tryz.prog 35 #[.pointer (some ⟨CB,0,none⟩),.int .i64 i,.int .i64 j] W fun e W'=>e=.returned (.tuple #[.int .i64 (whyD d (condP ps) (rankP ps) (timeP ts) i j).1,.int .i64 (whyD d (condP ps) (rankP ps) (timeP ts) i j).2])/\ Hid (StK w0 KB d ps W')/\ Hid (StepK KB W W'):=by
 have HSP:=Lib.hid (fun w' (h:StK w0 KB d ps w')=>court_special hE h i j hi hj hsz);obtain⟨RR,hRR⟩:∃RR,whyD d (condP ps) (rankP ps) (timeP ts) i j=RR:=⟨_,rfl⟩;rw[hRR];have HRR:Hid (whyD d (condP ps) (rankP ps) (timeP ts) i j=RR):=hRR;unfold whyD at HRR;obtain⟨⟨mo,eq,er⟩,hsp⟩:∃X,specD d (condP ps) i j=X:=⟨_,rfl⟩;rw[hsp]at HSP HRR;simp only at HSP HRR;have er1:=rankP_at hi;have er2:=rankP_at hj;have HE:=Lib.hid hE;have HS:=Lib.hid hS;obtain⟨ap,cp,hc1,_⟩:=SlIn.shape hE.pvs;subst hc1;have hkb:=hS.base hE;obtain⟨b,off,rfl,hbB,ak,ck,ae,ce,hr,_⟩:=SlIn.at (hE.pvs.below PvR.kept hkb) i hi;obtain⟨b',off',hab,_,ak2,ck2,ae2,ce2,hr2,_⟩:=SlIn.at (hE.pvs.below PvR.kept hkb) j hj;obtain⟨rfl,rfl⟩:b=b'/\ off=off':=by simpa using hab
 have hBW:B<=W.heap.size:=by have:=hkb.size;have:=hE.hB;have:=hE.lt;have:=hS.size;omega
 rw[er1,er2]at HRR;generalize ps[i]=p at*
 generalize ps[j]=q at*
 have HKP:Hid (∀w',Below W.heap.size W w'->w'.cell? ⟨CB,1,none⟩=some (.slice (some ⟨b,off,none⟩) ps.length cp)/\
   (Instr.loadAt 50 (.pointer (some ⟨b,off+i*23,none⟩))).run Tryz.prog w'=.ok (.agg (pvC p ak ck ae ce).toArray) w'/\ (Instr.loadAt 50 (.pointer (some ⟨b,off+j*23,none⟩))).run Tryz.prog w'=.ok (.agg (pvC q ak2 ck2 ae2 ce2).toArray) w'):=fun w' hb=>by
  have k:∀ {o:Nat} {l:List Value},W.rangeAt b o l->w'.rangeAt b o l:=fun h=>fun n v hv=>by rw[(hb.mono hBW).cell (p:=⟨b,_,none⟩) hbB];exact h n v hv
  exact⟨((HS.out.more hb).court HE.out).cell 1,run_loadAt_mid w' b _ _ _ _ (k hr) Tryz.underlying50 rfl Pv.infoR,run_loadAt_mid w' b _ _ _ _ (k hr2) Tryz.underlying50 rfl Pv.infoR⟩
 clear hE hS hRR hsp er1 er2 hkb hr hr2 hab;go_enter Tryz.func35,Tryz.ntmps35;go_upto_region 1 with(fail)
 go_cut[8,9] (fun s8 s9 wx=>∃(X Y:Nat),s8=.pointer (some ⟨X,0,none⟩)/\ s9=.pointer (some ⟨Y,0,none⟩)/\ Hid (wx.cell? ⟨X,1,none⟩=some (.int .i64 p.rank))/\ Hid (wx.cell? ⟨Y,1,none⟩=some (.int .i64 q.rank))/\ Hid (Below W.heap.size W wx))
 case first=>
  refine wp_region_held_drew (S:=(fun w':World=>Hid (Below W.heap.size W w'))) (by kernel_rfl) (Lib.hid ((Below.refl W.heap.size W).drew)) (fun hHeld=>?_);refine tp 0 ?_;refine tp 5 ?_;refine tp 8 ?_;refine tp 13 ?_;refine tk 1 ?v1x1 ?y1x1 ?_
  case y1x1=>(intro w9 hSw;obtain⟨y1,l1,l2⟩:=HKP.out w9 hSw.out;go_simp;try with_reducible rfl)
  refine tk 9 ?v1x9 ?y1x9 ?_
  case y1x9=>(intro w9 hSw;obtain⟨y1,l1,l2⟩:=HKP.out w9 hSw.out;go_simp;try with_reducible rfl)
  refine tp 2 ?_;refine tp 10 ?_;refine tp 3 ?_;refine tp 11 ?_;refine tk 4 ?v1x4 ?y1x4 ?_
  case y1x4=>(intro w9 hSw;obtain⟨y1,l1,l2⟩:=HKP.out w9 hSw.out;go_simp;try with_reducible rfl)
  refine tk 12 ?v1x12 ?y1x12 ?_
  case y1x12=>(intro w9 hSw;obtain⟨y1,l1,l2⟩:=HKP.out w9 hSw.out;go_simp;try with_reducible rfl)
  refine tk 6 ?v1x6 ?y1x6 ?_
  case y1x6=>(intro w9 hSw;obtain⟨y1,l1,l2⟩:=HKP.out w9 hSw.out;go_simp;try with_reducible rfl)
  refine tk 14 ?v1x14 ?y1x14 ?_
  case y1x14=>(intro w9 hSw;obtain⟨y1,l1,l2⟩:=HKP.out w9 hSw.out;go_simp;try with_reducible rfl)
  refine tk 7 ?v1x7 ?y1x7 ?_
  case y1x7=>(intro w9 hSw;refine(exec_load_mid (x:=.tmp 19) (p:=.pointer (some ⟨b,off+i*23,none⟩)) rfl rfl (HKP.out w9 hSw.out).2.1).trans ?_;with_reducible rfl)
  refine tk 15 ?v1x15 ?y1x15 ?_
  case y1x15=>(intro w9 hSw;refine(exec_load_mid (x:=.tmp 27) (p:=.pointer (some ⟨b,off+j*23,none⟩)) rfl rfl (HKP.out w9 hSw.out).2.2).trans ?_;with_reducible rfl)
  refine tt 16 17 (fun K hK=>?_) (fun K hK=>?_)
  ·skip
   go_simp
   refine hK.out _ _ ?_ (fun hHeld=>?_)
   ·exact(by first | assumption | exact Lib.hid ((Below.refl _ _).drew) | exact hid_drew_alloc _ _ | exact hid_alloc (by assumption) _)
   clear hK K
   try simp only[Act.put,sA,sB,sC]
   refine tr 17 (fun K hK=>?_)
   go_simp
   refine hK.out _ _ ?_ (fun hHeld=>?_)
   ·exact(by first | assumption | exact Lib.hid ((Below.refl _ _).drew) | exact hid_drew_alloc _ _ | exact hid_alloc (by assumption) _)
   clear hK K
   try simp only[Act.put,sA,sB,sC]
   refine tr 18 (fun K hK=>?_);rw[if_pos (by rfl)];refine wp_store_mid (P:=Tryz.prog) 50 (.tmp 8) (.tmp 20) rfl (W.heap.size) 0 (pvC p ak ck ae ce).toArray rfl rfl (by exact Blk.there23 (blk_drew (hd_one W _ _ _).out) (by rfl) _ _ _ _ _) Pv.infoR (by exact pvC_one _ _ _ _ _) ?_;refine hK.out _ _ ?_ (fun hHeld=>?_)
   ·exact hid_cells (by assumption) (by first | exact Nat.le_refl _ | exact Nat.le_succ _) _ _
   clear hK K;generalize hWA:World.setCells _ (W.heap.size) 0 _=WA at*
   have HRX:Hid (WA.rangeAt (W.heap.size) 0 (pvC p ak ck ae ce)):=by rw[<-hWA];exact World.rangeAt_setCells_same _ _ _ _ (by exact Blk.there23 (blk_drew (hd_one W _ _ _).out) (by rfl) _ _ _ _ _)
   have HTY:Hid (WA.there (W.heap.size+1) 0 (pvC q ak2 ck2 ae2 ce2).toArray.size):=by rw[<-hWA];exact World.there_setCells (by exact Blk.there23 (blk_drew (hd_two W _ _ _).out) (by rfl) _ _ _ _ _) _ _ _
   clear hWA
   try simp only[Act.put]
   refine tr 19 (fun K hK=>?_);rw[if_pos (by rfl)];refine wp_store_mid (P:=Tryz.prog) 50 (.tmp 9) (.tmp 28) rfl (W.heap.size+1) 0 (pvC q ak2 ck2 ae2 ce2).toArray rfl rfl HTY.out Pv.infoR (by exact pvC_one _ _ _ _ _) ?_;refine hK.out _ _ ?_ (fun hHeld=>?_)
   ·exact hid_cells (by assumption) (by first | exact Nat.le_refl _ | exact Nat.le_succ _) _ _
   clear hK K;generalize hWB:World.setCells _ (W.heap.size+1) 0 _=WB at*
   have HRY:Hid (WB.rangeAt (W.heap.size+1) 0 (pvC q ak2 ck2 ae2 ce2)):=by rw[<-hWB];exact World.rangeAt_setCells_same _ _ _ _ HTY.out
   have HRZ:Hid (WB.rangeAt (W.heap.size) 0 (pvC p ak ck ae ce)):=by rw[<-hWB];exact World.rangeAt_setCells_apart HRX.out _ _ _ (.inl (by omega))
   clear hWB
   try simp only[Act.put]
   refine wpAnyH_done (by kernel_rfl) ?_ _
   (go_wp2;go_meet;exact⟨W.heap.size,W.heap.size+1,rfl,rfl,HRZ.out 1 _ rfl,HRY.out 1 _ rfl,by assumption⟩)
  ·skip
   go_simp
   refine hK.out _ _ ?_ (fun hHeld=>?_)
   ·exact(by first | assumption | exact Lib.hid ((Below.refl _ _).drew) | exact hid_drew_alloc _ _ | exact hid_alloc (by assumption) _)
   clear hK K
   try simp only[Act.put,sA,sB,sC]
   refine tr 16 (fun K hK=>?_)
   go_simp
   refine hK.out _ _ ?_ (fun hHeld=>?_)
   ·exact(by first | assumption | exact Lib.hid ((Below.refl _ _).drew) | exact hid_drew_alloc _ _ | exact hid_alloc (by assumption) _)
   clear hK K
   try simp only[Act.put,sA,sB,sC]
   refine tr 18 (fun K hK=>?_);rw[if_pos (by rfl)];refine wp_store_mid (P:=Tryz.prog) 50 (.tmp 8) (.tmp 20) rfl (W.heap.size+1) 0 (pvC p ak ck ae ce).toArray rfl rfl (by exact Blk.there23 (blk_drew (hd_two W _ _ _).out) (by rfl) _ _ _ _ _) Pv.infoR (by exact pvC_one _ _ _ _ _) ?_;refine hK.out _ _ ?_ (fun hHeld=>?_)
   ·exact hid_cells (by assumption) (by first | exact Nat.le_refl _ | exact Nat.le_succ _) _ _
   clear hK K;generalize hWA:World.setCells _ (W.heap.size+1) 0 _=WA at*
   have HRX:Hid (WA.rangeAt (W.heap.size+1) 0 (pvC p ak ck ae ce)):=by rw[<-hWA];exact World.rangeAt_setCells_same _ _ _ _ (by exact Blk.there23 (blk_drew (hd_two W _ _ _).out) (by rfl) _ _ _ _ _)
   have HTY:Hid (WA.there (W.heap.size) 0 (pvC q ak2 ck2 ae2 ce2).toArray.size):=by rw[<-hWA];exact World.there_setCells (by exact Blk.there23 (blk_drew (hd_one W _ _ _).out) (by rfl) _ _ _ _ _) _ _ _
   clear hWA
   try simp only[Act.put]
   refine tr 19 (fun K hK=>?_);rw[if_pos (by rfl)];refine wp_store_mid (P:=Tryz.prog) 50 (.tmp 9) (.tmp 28) rfl (W.heap.size) 0 (pvC q ak2 ck2 ae2 ce2).toArray rfl rfl HTY.out Pv.infoR (by exact pvC_one _ _ _ _ _) ?_;refine hK.out _ _ ?_ (fun hHeld=>?_)
   ·exact hid_cells (by assumption) (by first | exact Nat.le_refl _ | exact Nat.le_succ _) _ _
   clear hK K;generalize hWB:World.setCells _ (W.heap.size) 0 _=WB at*
   have HRY:Hid (WB.rangeAt (W.heap.size) 0 (pvC q ak2 ck2 ae2 ce2)):=by rw[<-hWB];exact World.rangeAt_setCells_same _ _ _ _ HTY.out
   have HRZ:Hid (WB.rangeAt (W.heap.size+1) 0 (pvC p ak ck ae ce)):=by rw[<-hWB];exact World.rangeAt_setCells_apart HRX.out _ _ _ (.inl (by omega))
   clear hWB
   try simp only[Act.put]
   refine wpAnyH_done (by kernel_rfl) ?_ _
   (go_wp2;go_meet;exact⟨W.heap.size+1,W.heap.size,rfl,rfl,HRZ.out 1 _ rfl,HRY.out 1 _ rfl,by assumption⟩)
 case rest=>
  obtain⟨X,Y,rfl,rfl,hx,hy,HB1⟩:=hcut;rename World=>W1
  have z1:=hx.out;have z2:=hy.out;have HS1:=Lib.hid (HS.out.more HB1.out);have HP1:=Lib.hid (StepK.of_below (KB:=KB) HB1.out);clear HKP;by_cases h1:p.rank<q.rank
  ·have g1:decide (p.rank<q.rank)=true:=decide_eq_true h1
   have HEND:Hid (RR=(1,0)):=by show _=_;rw[<-HRR.out,if_pos h1]
   clear HRR HSP;go_wp2;go_ret2;exact⟨by rw[HEND.out];rfl,HS1,HP1⟩
  ·have g1:decide (p.rank<q.rank)=false:=decide_eq_false h1
   rw[if_neg h1]at HRR;by_cases h2:q.rank<p.rank
   ·have g2:decide (q.rank<p.rank)=true:=decide_eq_true h2
    have HEND:Hid (RR=(0,0)):=by show _=_;rw[<-HRR.out,if_pos h2]
    clear HRR HSP;go_wp2;go_ret2;exact⟨by rw[HEND.out];rfl,HS1,HP1⟩
   ·have g2:decide (q.rank<p.rank)=false:=decide_eq_false h2
    rw[if_neg h2]at HRR;go_upto_region 7 with(go_at_call 32;refine(HSP.out _ HS1.out).mono ?_;rintro e w2 ⟨rfl,HS2,HQ2⟩);have HP2:=Lib.hid (HP1.out.trans HQ2.out);clear z1 z2 g1 g2 HSP;by_cases h3:er=0
    ·subst h3
     rw[if_pos rfl]at HRR;cases mo with
     | true=>
      have HEND:Hid (RR=(2,0)):=HRR.out.symm;clear HRR;go_wp2;go_ret2;exact⟨by rw[HEND.out];rfl,HS2,HP2⟩
     | false=>
      rw[if_neg (by simp)]at HRR;obtain⟨at_,ct,hc2,_⟩:=SlIn.shape HE.out.tms;subst hc2;have hkb2:=HS2.out.base HE.out;have htm:=HE.out.tms.below (OneR.kept _) hkb2;obtain⟨tb,tof,rfl,_,t1⟩:=SlIn.one htm i (by omega);obtain⟨tb',tof',hab,_,t2⟩:=SlIn.one htm j (by omega);obtain⟨rfl,rfl⟩:tb=tb'/\ tof=tof':=by simpa using hab
      have et1:timeP ts i=ts[i]:=by unfold timeP;exact getD_dg _ _ _ (by omega)
      have et2:timeP ts j=ts[j]:=by unfold timeP;exact getD_dg _ _ _ (by omega)
      rw[et1,et2]at HRR;have x2:=(HS2.out.court HE.out).cell 2;clear et1 et2 htm hab hkb2;generalize ts[i]=ti at*
      generalize ts[j]=tj at*
      have hti:(i:Int)<(ts.length:Int):=by omega
      have htj:(j:Int)<(ts.length:Int):=by omega
      cases eq with
      | false=>
       have HEND:Hid (RR=(0,0)):=by show _=_;rw[<-HRR.out];simp
       clear HRR;go_upto_region 11 with(fail)
       go_region
       all_goals
        go_wp2;go_ret2;exact⟨by rw[HEND.out];rfl,by first | exact HS2 | exact Lib.hid (HS2.out.more ((Below.refl _ _).drew)),by first | exact HP2 | exact Lib.hid (HP2.out.trans (StepK.of_below ((Below.refl _ _).drew)))⟩
      | true=>
       by_cases h4:tj<ti
       ·have g4:decide (tj<ti)=true:=decide_eq_true h4
        have HEND:Hid (RR=(3,0)):=by show _=_;rw[<-HRR.out];simp[h4]
        clear HRR;go_upto_region 11 with(fail)
        go_region
        all_goals
         go_wp2;go_ret2;exact⟨by rw[HEND.out];rfl,by first | exact HS2 | exact Lib.hid (HS2.out.more ((Below.refl _ _).drew)),by first | exact HP2 | exact Lib.hid (HP2.out.trans (StepK.of_below ((Below.refl _ _).drew)))⟩
       ·have g4:decide (tj<ti)=false:=decide_eq_false h4
        have HEND:Hid (RR=(0,0)):=by show _=_;rw[<-HRR.out];simp[h4]
        clear HRR;go_upto_region 11 with(fail)
        go_region
        all_goals
         go_wp2;go_ret2;exact⟨by rw[HEND.out];rfl,by first | exact HS2 | exact Lib.hid (HS2.out.more ((Below.refl _ _).drew)),by first | exact HP2 | exact Lib.hid (HP2.out.trans (StepK.of_below ((Below.refl _ _).drew)))⟩
    ·have gE:(er !=0)=true:=by simpa using h3
     have HEND:Hid (RR=(0,er)):=by show _=_;rw[<-HRR.out,if_neg h3]
     clear HRR;go_wp2;go_ret2;exact⟨by rw[HEND.out];rfl,HS2,HP2⟩
end
end Go.Proofs.YtmafmhlfjficmaaGreatDoor
