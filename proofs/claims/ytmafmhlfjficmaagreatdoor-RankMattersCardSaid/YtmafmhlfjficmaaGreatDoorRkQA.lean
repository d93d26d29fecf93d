/- The walk of law15's sample: the law of the chapter's example. No conditions. -/
import Derived.Test.YtmafmhlfjficmaaGreatDoorRkGA
import Derived.Test.YtmafmhlfjficmaaGreatDoorDgGP
import Derived.Test.YtmafmhlfjficmaaGreatDoorRkHA
set_option maxRecDepth 100000
set_option maxHeartbeats 4000000
namespace Go.Proofs.YtmafmhlfjficmaaGreatDoor
section
open Go.RowKit
def stZ :St:=⟨0,⟨#[]⟩,0,none,0,0⟩
def pvH (id:ByteArray)(lv:Int)(nm:ByteArray)(n:Int):Pv:=⟨id,lv,2,⟨#[113]⟩,0,.mk 3 nm 6 n [],[],stZ,stZ,stZ⟩
theorem provision_any (id:ByteArray)(lv:Int)(nm:ByteArray)(n:Int)(w:World):
  Calls Tryz.prog 48 #[.string id,.int .i64 lv,.string nm,.int .i64 n] w fun e w'=>e=.returned (.agg (pvC (pvH id lv nm n) none 0 none 0).toArray)/\ Below w.heap.size w w':=by
 go_enter Tryz.func48,Tryz.ntmps48;go_wp2_with ((with_reducible show wpList _ _ _ (⟨_,Op.store 50 (.tmp 8) (.tmp 14),_,_,_,_⟩::_) _ _);refine wpList_store_pv rfl (.tmp 8) (.tmp 14) rfl (pvH id lv nm n) none 0 none 0 rfl rfl ?hs1 Pv.info ?_;(case hs1=>rfl);intro W1 hb1 hz1 hr1 hf1;have e1_0:=hr1 0 _ rfl;have HR1:=Lib.hid hr1;clear hr1)
 have hlc:(loadCellsFrom ⟨w.heap.size,0,none⟩ 0 23 #[]).run Tryz.prog W1=.ok (pvC (pvH id lv nm n) none 0 none 0).toArray W1:=
  run_loadCells_list (P:=Tryz.prog) W1 ⟨w.heap.size,0,none⟩ (pvC (pvH id lv nm n) none 0 none 0) (fun j v hv=>by rw[Addr.add_mid];exact HR1.out j v hv)
 refine bodyPost_ret (v:=.agg (pvC (pvH id lv nm n) none 0 none 0).toArray) (by simp only[results,Tryz.results48,go_sem];simp[hlc];try rfl) rfl ?_;exact⟨rfl,hb1⟩
end
section
open Go.RowKit
def psH :List Pv:=[pvH ⟨#[97]⟩ 1 ageB 18,pvH ⟨#[98]⟩ 2 ageB 20,pvH ⟨#[99]⟩ 2 ageB 18,pvH ⟨#[100]⟩ 2 ageB 18,pvH ⟨#[101]⟩ 2 memB 1]
def tsH :List Int:=[0,50,10,20,30]
def rowH :List Value:=psH.flatMap fun p=>pvC p none 0 none 0
theorem leafH_in (w:World)(B:Nat){nm:ByteArray}{c n:Int}(h1:W64 c)(h2:W64 n)(h3:nm.size<=maxLen):(Fo.mk 3 nm c n []).In w B (.agg #[.int .i64 3,.string nm,.int .i64 c,.int .i64 n,.slice none 0 0]):=
 ⟨none,0,rfl,⟨by decide,by decide⟩,h1,h2,h3,Nat.le_refl _,Nat.zero_le _,fun h=>absurd rfl h⟩
theorem pvH_at {W:World}{X B i:Nat}(h:Blk W X 50 rowH.toArray){id:ByteArray}{lv:Int}{nm:ByteArray}{n:Int}{r:List Value}(hd:rowH.drop (i*23)=pvC (pvH id lv nm n) none 0 none 0++r)(h1:W64 n)(h2:nm.size<=maxLen)(h3:id.size<=maxLen):PvR W B (pvH id lv nm n) X (0+i*23):=by
 refine⟨none,0,none,0,fun j v hv=>?_,leafH_in W B ⟨by decide,by decide⟩ h1 h2,⟨none,0,rfl,Nat.le_refl _,Nat.zero_le _,fun h=>absurd rfl h⟩,h3,(by show(⟨#[113]⟩:ByteArray).size<=maxLen;decide)⟩;have hj:j<(pvC (pvH id lv nm n) none 0 none 0).length:=(List.getElem?_eq_some_iff.1 hv).1
 have e:rowH[0+i*23+j]? =some v:=by
  rw[Nat.zero_add, <-List.getElem?_drop,hd,List.getElem?_append_left hj];exact hv
 rw[h.cell]
 simpa using e
theorem rowH_in {W:World}{X B:Nat}(h:Blk W X 50 rowH.toArray)(hlt:X<B):SlIn PvR 23 W B psH (.slice (some ⟨X,0,none⟩) 5 5):=by
 refine⟨_,5,rfl,by decide,by decide,fun _=>⟨X,0,rfl,hlt,fun i hi=>?_⟩⟩;have w1:∀n:Int,0<=n->n<=150->W64 n:=fun n h0 h1=>⟨by omega,by omega⟩
 match i,hi with
 | 0,_=>exact pvH_at h rfl (w1 _ (by decide) (by decide)) (by decide) (by decide)
 | 1,_=>exact pvH_at h rfl (w1 _ (by decide) (by decide)) (by decide) (by decide)
 | 2,_=>exact pvH_at h rfl (w1 _ (by decide) (by decide)) (by decide) (by decide)
 | 3,_=>exact pvH_at h rfl (w1 _ (by decide) (by decide)) (by decide) (by decide)
 | 4,_=>exact pvH_at h rfl (w1 _ (by decide) (by decide)) (by decide) (by decide)
theorem run_five (w:World):(Instr.buildSlice 25 5 #[(0,(.agg (pvC (pvH ⟨#[97]⟩ 1 ⟨#[97,103,101]⟩ 18) none 0 none 0).toArray)),(1,(.agg (pvC (pvH ⟨#[98]⟩ 2 ⟨#[97,103,101]⟩ 20) none 0 none 0).toArray)),(2,(.agg (pvC (pvH ⟨#[99]⟩ 2 ⟨#[97,103,101]⟩ 18) none 0 none 0).toArray)),(3,(.agg (pvC (pvH ⟨#[100]⟩ 2 ⟨#[97,103,101]⟩ 18) none 0 none 0).toArray)),(4,(.agg (pvC (pvH ⟨#[101]⟩ 2 ⟨#[109,101,109,98,101,114]⟩ 1) none 0 none 0).toArray))]).run Tryz.prog w=.ok (.slice (some ⟨w.heap.size,0,none⟩) 5 5) (w.alloc (.cells rowH.toArray 50)):=by kernel_rfl
theorem step_build_five {ops:Array Oper}{o:Oper}{a:Act}{w:World}{K:Act->World->Prop}{Q:Exit->Act->World->Prop}{E:Prop}(hgd:o.guard=none)(x0 x1 x2 x3 x4:Operand)(ho:o.op=.buildSlice 25 5 #[(0,x0),(1,x1),(2,x2),(3,x3),(4,x4)])
  (h0:a.eval x0=(.agg (pvC (pvH ⟨#[97]⟩ 1 ⟨#[97,103,101]⟩ 18) none 0 none 0).toArray)) (h1:a.eval x1=(.agg (pvC (pvH ⟨#[98]⟩ 2 ⟨#[97,103,101]⟩ 20) none 0 none 0).toArray)) (h2:a.eval x2=(.agg (pvC (pvH ⟨#[99]⟩ 2 ⟨#[97,103,101]⟩ 18) none 0 none 0).toArray)) (h3:a.eval x3=(.agg (pvC (pvH ⟨#[100]⟩ 2 ⟨#[97,103,101]⟩ 18) none 0 none 0).toArray)) (h4:a.eval x4=(.agg (pvC (pvH ⟨#[101]⟩ 2 ⟨#[109,101,109,98,101,114]⟩ 1) none 0 none 0).toArray)) (H:Nat) (hH:w.heap.size=H) (h:K (a.put o.dst (.slice (some ⟨H,0,none⟩) 5 5)) (w.alloc (.cells rowH.toArray 50))):
  if Region.wanted o (yielded ops a.tmps)=true then Oper.wp Tryz.prog o a w K Q else E:=by
 rw[if_pos (by simp[Region.wanted,hgd])];subst hH;unfold Oper.wp execOp;simp only[ho,List.map_toArray,List.map_cons,List.map_nil,h0,h1,h2,h3,h4,Sem.run_bind,run_five,Result.andThen_ok,Sem.run_pure];exact h
structure SmW (w W : World) : Prop where
 low:Below w.heap.size w W
 row:Blk W (w.heap.size+1) 76 #[.string ageB,.int .i64 2,.int .i64 0,.int .i64 150,.string memB,.int .i64 1,.int .i64 0,.int .i64 1]
 box:Blk W (w.heap.size+2) 24 #[.slice (some ⟨w.heap.size+1,0,none⟩) 2 2]
structure SmL (w W : World) : Prop where
 sm:SmW w W
 law:Blk W w.heap.size 28 #[.slice none 0 0,.slice none 0 0,.slice none 0 0]
structure SmA (w W : World) (X : Nat) (t : TypeId) (cs : Array Value) : Prop where
 blk:Blk W X t cs
 gt:w.heap.size<X
variable {w W W' : World} {X : Nat} {t : TypeId} {cs : Array Value}
theorem SmW.step (h:SmW w W)(hb:Below W.heap.size W W'):SmW w W':=⟨h.low.trans (hb.mono h.low.size),h.row.below hb,h.box.below hb⟩
theorem SmL.step (h:SmL w W)(hb:Below W.heap.size W W'):SmL w W':=⟨h.sm.step hb,h.law.below hb⟩
theorem SmA.step (h:SmA w W X t cs)(hb:Below W.heap.size W W'):SmA w W' X t cs:=⟨h.blk.below hb,h.gt⟩
theorem blk_put (h:Blk W X t cs)(hne:w.heap.size<X)(i:Nat)(v:Value):Blk (W.setCell ⟨w.heap.size,i,none⟩ v) X t cs:=by
 show(W.heap.modify w.heap.size _)[X]? =_
 rw[Array.getElem?_modify,if_neg (by omega)];exact h
theorem SmW.put (h:SmW w W)(i:Nat)(v:Value):SmW w (W.setCell ⟨w.heap.size,i,none⟩ v):=⟨h.low.setCell (p:=⟨w.heap.size,i,none⟩) (Nat.le_refl _) _,blk_put h.row (by omega) i v,blk_put h.box (by omega) i v⟩
theorem SmA.put (h:SmA w W X t cs)(i:Nat)(v:Value):SmA w (W.setCell ⟨w.heap.size,i,none⟩ v) X t cs:=⟨blk_put h.blk h.gt i v,h.gt⟩
theorem sm_new (h:Hid (SmL w W))(t:TypeId)(cs:Array Value):Hid (SmA w (W.alloc (.cells cs t)) W.heap.size t cs):=⟨Blk.new W t cs,by have:=h.out.sm.box.lt;omega⟩
theorem sm_at (h:Hid (SmA w W X t cs))(o:Obj):Hid (SmA w (W.alloc o) X t cs):=h.out.step ((Below.refl _ _).alloc (Nat.le_refl _) _)
theorem sm_alloc (h:Hid (SmL w W))(o:Obj):Hid (SmL w (W.alloc o)):=h.out.step ((Below.refl _ _).alloc (Nat.le_refl _) _)
theorem sample_any (w:World):Calls Tryz.prog 28 #[] w fun e w'=>∃v,e=.returned v/\ Below w.heap.size w w'/\ LawT w' w'.heap.size dH psH tsH v:=by
 go_enter Tryz.func28,Tryz.ntmps28;go_upto_region 2 with(fail)
 have HM0:Hid (SmL w (((w.alloc (.cells #[.slice none 0 0,.slice none 0 0,.slice none 0 0] 28)).alloc (.cells #[.string ageB,.int .i64 2,.int .i64 0,.int .i64 150,.string memB,.int .i64 1,.int .i64 0,.int .i64 1] 76)).alloc (.cells #[.slice (some ⟨w.heap.size+1,0,none⟩) 2 2] 24))):=by
  have h0:=((Blk.new w 28 #[.slice none 0 0,.slice none 0 0,.slice none 0 0]).alloc (.cells #[.string ageB,.int .i64 2,.int .i64 0,.int .i64 150,.string memB,.int .i64 1,.int .i64 0,.int .i64 1] 76)).alloc (.cells #[.slice (some ⟨w.heap.size+1,0,none⟩) 2 2] 24);have h1:=(Blk.new (w.alloc (.cells #[.slice none 0 0,.slice none 0 0,.slice none 0 0] 28)) 76 #[.string ageB,.int .i64 2,.int .i64 0,.int .i64 150,.string memB,.int .i64 1,.int .i64 0,.int .i64 1]).alloc (.cells #[.slice (some ⟨w.heap.size+1,0,none⟩) 2 2] 24);have h2:=Blk.new ((w.alloc (.cells #[.slice none 0 0,.slice none 0 0,.slice none 0 0] 28)).alloc (.cells #[.string ageB,.int .i64 2,.int .i64 0,.int .i64 150,.string memB,.int .i64 1,.int .i64 0,.int .i64 1] 76)) 24 #[.slice (some ⟨w.heap.size+1,0,none⟩) 2 2];simp only[World.size_alloc]at h1 h2;exact⟨⟨(((Below.refl _ _).alloc (Nat.le_refl _) _).alloc (by simp) _).alloc (by simp;omega) _,h1,h2⟩,h0⟩
 unfold ageB memB at HM0;obtain⟨W2,hW2⟩:∃W2,(((w.alloc (.cells #[.slice none 0 0,.slice none 0 0,.slice none 0 0] 28)).alloc (.cells #[.string (⟨#[97,103,101]⟩:ByteArray),.int .i64 2,.int .i64 0,.int .i64 150,.string (⟨#[109,101,109,98,101,114]⟩:ByteArray),.int .i64 1,.int .i64 0,.int .i64 1] 76)).alloc (.cells #[.slice (some ⟨w.heap.size+1,0,none⟩) 2 2] 24))=W2:=⟨_,rfl⟩;rw[hW2]at HM0⊢;have HM:=Lib.hid (HM0.out.step (Below.refl W2.heap.size W2).drew);clear hW2 HM0
 go_cut[] (fun wx=>∃(X Y:Nat),Hid (Blk wx w.heap.size 28 #[.slice (some ⟨w.heap.size+1,0,none⟩) 2 2,.slice (some ⟨X,0,none⟩) 5 5,.slice (some ⟨Y,0,none⟩) 5 5])/\ Hid (SmW w wx)/\ Hid (SmA w wx X 50 rowH.toArray)/\ Hid (SmA w wx Y 3 #[.int .i64 0,.int .i64 50,.int .i64 10,.int .i64 20,.int .i64 30]))
 case first=>
  refine wp_region_held_drew (S:=(fun w':World=>Hid (SmW w w'))) (by kernel_rfl) (Lib.hid HM.out.sm) (fun hHeld=>?_);refine tk 0 ?v0 ?y0 ?_
  case y0=>(intro w9 hSw;have y0:=hSw.out.box.cell 0;go_simp;try with_reducible rfl)
  refine tt 1 7 (fun K hK=>?_) (fun K hK=>?_)
  ·skip
   (go_simp;go_at_call 48;refine(provision_any _ _ _ _ _).mono ?_;rintro e w4 ⟨rfl,hb4⟩;(first | (have HY:=Lib.hid (HY.out.step hb4)) | skip);have HM:=Lib.hid (HM.out.step hb4);clear hb4)
   refine hK.out _ _ ?_ (fun hHeld=>?_)
   ·exact Lib.hid HM.out.sm
   clear hK K
   try simp only[Act.put,sA,sB,sC]
   refine tt 2 7 (fun K hK=>?_) (fun K hK=>?_)
   ·skip
    (go_simp;go_at_call 48;refine(provision_any _ _ _ _ _).mono ?_;rintro e w4 ⟨rfl,hb4⟩;(first | (have HY:=Lib.hid (HY.out.step hb4)) | skip);have HM:=Lib.hid (HM.out.step hb4);clear hb4)
    refine hK.out _ _ ?_ (fun hHeld=>?_)
    ·exact Lib.hid HM.out.sm
    clear hK K
    try simp only[Act.put,sA,sB,sC]
    refine tt 3 7 (fun K hK=>?_) (fun K hK=>?_)
    ·skip
     (go_simp;go_at_call 48;refine(provision_any _ _ _ _ _).mono ?_;rintro e w4 ⟨rfl,hb4⟩;(first | (have HY:=Lib.hid (HY.out.step hb4)) | skip);have HM:=Lib.hid (HM.out.step hb4);clear hb4)
     refine hK.out _ _ ?_ (fun hHeld=>?_)
     ·exact Lib.hid HM.out.sm
     clear hK K
     try simp only[Act.put,sA,sB,sC]
     refine tt 4 7 (fun K hK=>?_) (fun K hK=>?_)
     ·skip
      (go_simp;go_at_call 48;refine(provision_any _ _ _ _ _).mono ?_;rintro e w4 ⟨rfl,hb4⟩;(first | (have HY:=Lib.hid (HY.out.step hb4)) | skip);have HM:=Lib.hid (HM.out.step hb4);clear hb4)
      refine hK.out _ _ ?_ (fun hHeld=>?_)
      ·exact Lib.hid HM.out.sm
      clear hK K
      try simp only[Act.put,sA,sB,sC]
      refine tt 5 7 (fun K hK=>?_) (fun K hK=>?_)
      ·skip
       (go_simp;go_at_call 48;refine(provision_any _ _ _ _ _).mono ?_;rintro e w4 ⟨rfl,hb4⟩;(first | (have HY:=Lib.hid (HY.out.step hb4)) | skip);have HM:=Lib.hid (HM.out.step hb4);clear hb4)
       refine hK.out _ _ ?_ (fun hHeld=>?_)
       ·exact Lib.hid HM.out.sm
       clear hK K
       try simp only[Act.put,sA,sB,sC]
       refine tt 6 7 (fun K hK=>?_) (fun K hK=>?_)
       ·skip
        (refine step_build_five rfl (.tmp 7) (.tmp 8) (.tmp 9) (.tmp 10) (.tmp 11) rfl (by rfl) (by rfl) (by rfl) (by rfl) (by rfl) _ rfl ?_;have HX:=sm_new HM 50 rowH.toArray;(try simp only[World.size_alloc]at HX);(first | (have HY:=sm_at HY (.cells rowH.toArray 50)) | skip);have HM:=sm_alloc HM (.cells rowH.toArray 50))
        refine hK.out _ _ ?_ (fun hHeld=>?_)
        ·exact Lib.hid HM.out.sm
        clear hK K
        try simp only[Act.put,sA,sB,sC]
        refine tr 7 (fun K hK=>?_)
        (go_simp;have HY:=sm_new HM 3 #[.int .i64 0,.int .i64 50,.int .i64 10,.int .i64 20,.int .i64 30];(try simp only[World.size_alloc]at HY);(first | (have HX:=sm_at HX (.cells #[.int .i64 0,.int .i64 50,.int .i64 10,.int .i64 20,.int .i64 30] 3)) | skip);have HM:=sm_alloc HM (.cells #[.int .i64 0,.int .i64 50,.int .i64 10,.int .i64 20,.int .i64 30] 3))
        refine hK.out _ _ ?_ (fun hHeld=>?_)
        ·exact Lib.hid HM.out.sm
        clear hK K
        try simp only[Act.put,sA,sB,sC]
        refine tp 8 ?_;refine tr 9 (fun K hK=>?_)
        (have z0:=HM.out.law.cell 0;have z1:=HM.out.law.cell 1;have z2:=HM.out.law.cell 2;have f0:=HM.out.law.frozen 0;have f1:=HM.out.law.frozen 1;have f2:=HM.out.law.frozen 2;go_simp)
        refine hK.out _ _ ?_ (fun hHeld=>?_)
        ·exact Lib.hid (((HM.out.sm.put _ _).put _ _).put _ _)
        clear hK K
        try simp only[Act.put,sA,sB,sC]
        refine wpAnyH_done (by kernel_rfl) ?_ _
        (go_wp2;go_meet;exact⟨_,_,Lib.hid (((HM.out.law.set 0 _).set 1 _).set 2 _),Lib.hid (((HM.out.sm.put _ _).put _ _).put _ _),Lib.hid (((HX.out.put _ _).put _ _).put _ _),Lib.hid (((HY.out.put _ _).put _ _).put _ _)⟩)
       ·skip
        (go_simp;have HY:=sm_new HM 3 #[.int .i64 0,.int .i64 50,.int .i64 10,.int .i64 20,.int .i64 30];(try simp only[World.size_alloc]at HY);(first | (have HX:=sm_at HX (.cells #[.int .i64 0,.int .i64 50,.int .i64 10,.int .i64 20,.int .i64 30] 3)) | skip);have HM:=sm_alloc HM (.cells #[.int .i64 0,.int .i64 50,.int .i64 10,.int .i64 20,.int .i64 30] 3))
        refine hK.out _ _ ?_ (fun hHeld=>?_)
        ·exact Lib.hid HM.out.sm
        clear hK K
        try simp only[Act.put,sA,sB,sC]
        refine tr 6 (fun K hK=>?_)
        (refine step_build_five rfl (.tmp 7) (.tmp 8) (.tmp 9) (.tmp 10) (.tmp 11) rfl (by rfl) (by rfl) (by rfl) (by rfl) (by rfl) _ rfl ?_;have HX:=sm_new HM 50 rowH.toArray;(try simp only[World.size_alloc]at HX);(first | (have HY:=sm_at HY (.cells rowH.toArray 50)) | skip);have HM:=sm_alloc HM (.cells rowH.toArray 50))
        refine hK.out _ _ ?_ (fun hHeld=>?_)
        ·exact Lib.hid HM.out.sm
        clear hK K
        try simp only[Act.put,sA,sB,sC]
        refine tp 8 ?_;refine tr 9 (fun K hK=>?_)
        (have z0:=HM.out.law.cell 0;have z1:=HM.out.law.cell 1;have z2:=HM.out.law.cell 2;have f0:=HM.out.law.frozen 0;have f1:=HM.out.law.frozen 1;have f2:=HM.out.law.frozen 2;go_simp)
        refine hK.out _ _ ?_ (fun hHeld=>?_)
        ·exact Lib.hid (((HM.out.sm.put _ _).put _ _).put _ _)
        clear hK K
        try simp only[Act.put,sA,sB,sC]
        refine wpAnyH_done (by kernel_rfl) ?_ _
        (go_wp2;go_meet;exact⟨_,_,Lib.hid (((HM.out.law.set 0 _).set 1 _).set 2 _),Lib.hid (((HM.out.sm.put _ _).put _ _).put _ _),Lib.hid (((HX.out.put _ _).put _ _).put _ _),Lib.hid (((HY.out.put _ _).put _ _).put _ _)⟩)
      ·skip
       (go_simp;have HY:=sm_new HM 3 #[.int .i64 0,.int .i64 50,.int .i64 10,.int .i64 20,.int .i64 30];(try simp only[World.size_alloc]at HY);(first | (have HX:=sm_at HX (.cells #[.int .i64 0,.int .i64 50,.int .i64 10,.int .i64 20,.int .i64 30] 3)) | skip);have HM:=sm_alloc HM (.cells #[.int .i64 0,.int .i64 50,.int .i64 10,.int .i64 20,.int .i64 30] 3))
       refine hK.out _ _ ?_ (fun hHeld=>?_)
       ·exact Lib.hid HM.out.sm
       clear hK K
       try simp only[Act.put,sA,sB,sC]
       refine tr 5 (fun K hK=>?_)
       (go_simp;go_at_call 48;refine(provision_any _ _ _ _ _).mono ?_;rintro e w4 ⟨rfl,hb4⟩;(first | (have HY:=Lib.hid (HY.out.step hb4)) | skip);have HM:=Lib.hid (HM.out.step hb4);clear hb4)
       refine hK.out _ _ ?_ (fun hHeld=>?_)
       ·exact Lib.hid HM.out.sm
       clear hK K
       try simp only[Act.put,sA,sB,sC]
       refine tr 6 (fun K hK=>?_)
       (refine step_build_five rfl (.tmp 7) (.tmp 8) (.tmp 9) (.tmp 10) (.tmp 11) rfl (by rfl) (by rfl) (by rfl) (by rfl) (by rfl) _ rfl ?_;have HX:=sm_new HM 50 rowH.toArray;(try simp only[World.size_alloc]at HX);(first | (have HY:=sm_at HY (.cells rowH.toArray 50)) | skip);have HM:=sm_alloc HM (.cells rowH.toArray 50))
       refine hK.out _ _ ?_ (fun hHeld=>?_)
       ·exact Lib.hid HM.out.sm
       clear hK K
       try simp only[Act.put,sA,sB,sC]
       refine tp 8 ?_;refine tr 9 (fun K hK=>?_)
       (have z0:=HM.out.law.cell 0;have z1:=HM.out.law.cell 1;have z2:=HM.out.law.cell 2;have f0:=HM.out.law.frozen 0;have f1:=HM.out.law.frozen 1;have f2:=HM.out.law.frozen 2;go_simp)
       refine hK.out _ _ ?_ (fun hHeld=>?_)
       ·exact Lib.hid (((HM.out.sm.put _ _).put _ _).put _ _)
       clear hK K
       try simp only[Act.put,sA,sB,sC]
       refine wpAnyH_done (by kernel_rfl) ?_ _
       (go_wp2;go_meet;exact⟨_,_,Lib.hid (((HM.out.law.set 0 _).set 1 _).set 2 _),Lib.hid (((HM.out.sm.put _ _).put _ _).put _ _),Lib.hid (((HX.out.put _ _).put _ _).put _ _),Lib.hid (((HY.out.put _ _).put _ _).put _ _)⟩)
     ·skip
      (go_simp;have HY:=sm_new HM 3 #[.int .i64 0,.int .i64 50,.int .i64 10,.int .i64 20,.int .i64 30];(try simp only[World.size_alloc]at HY);(first | (have HX:=sm_at HX (.cells #[.int .i64 0,.int .i64 50,.int .i64 10,.int .i64 20,.int .i64 30] 3)) | skip);have HM:=sm_alloc HM (.cells #[.int .i64 0,.int .i64 50,.int .i64 10,.int .i64 20,.int .i64 30] 3))
      refine hK.out _ _ ?_ (fun hHeld=>?_)
      ·exact Lib.hid HM.out.sm
      clear hK K
      try simp only[Act.put,sA,sB,sC]
      refine tr 4 (fun K hK=>?_)
      (go_simp;go_at_call 48;refine(provision_any _ _ _ _ _).mono ?_;rintro e w4 ⟨rfl,hb4⟩;(first | (have HY:=Lib.hid (HY.out.step hb4)) | skip);have HM:=Lib.hid (HM.out.step hb4);clear hb4)
      refine hK.out _ _ ?_ (fun hHeld=>?_)
      ·exact Lib.hid HM.out.sm
      clear hK K
      try simp only[Act.put,sA,sB,sC]
      refine tr 5 (fun K hK=>?_)
      (go_simp;go_at_call 48;refine(provision_any _ _ _ _ _).mono ?_;rintro e w4 ⟨rfl,hb4⟩;(first | (have HY:=Lib.hid (HY.out.step hb4)) | skip);have HM:=Lib.hid (HM.out.step hb4);clear hb4)
      refine hK.out _ _ ?_ (fun hHeld=>?_)
      ·exact Lib.hid HM.out.sm
      clear hK K
      try simp only[Act.put,sA,sB,sC]
      refine tr 6 (fun K hK=>?_)
      (refine step_build_five rfl (.tmp 7) (.tmp 8) (.tmp 9) (.tmp 10) (.tmp 11) rfl (by rfl) (by rfl) (by rfl) (by rfl) (by rfl) _ rfl ?_;have HX:=sm_new HM 50 rowH.toArray;(try simp only[World.size_alloc]at HX);(first | (have HY:=sm_at HY (.cells rowH.toArray 50)) | skip);have HM:=sm_alloc HM (.cells rowH.toArray 50))
      refine hK.out _ _ ?_ (fun hHeld=>?_)
      ·exact Lib.hid HM.out.sm
      clear hK K
      try simp only[Act.put,sA,sB,sC]
      refine tp 8 ?_;refine tr 9 (fun K hK=>?_)
      (have z0:=HM.out.law.cell 0;have z1:=HM.out.law.cell 1;have z2:=HM.out.law.cell 2;have f0:=HM.out.law.frozen 0;have f1:=HM.out.law.frozen 1;have f2:=HM.out.law.frozen 2;go_simp)
      refine hK.out _ _ ?_ (fun hHeld=>?_)
      ·exact Lib.hid (((HM.out.sm.put _ _).put _ _).put _ _)
      clear hK K
      try simp only[Act.put,sA,sB,sC]
      refine wpAnyH_done (by kernel_rfl) ?_ _
      (go_wp2;go_meet;exact⟨_,_,Lib.hid (((HM.out.law.set 0 _).set 1 _).set 2 _),Lib.hid (((HM.out.sm.put _ _).put _ _).put _ _),Lib.hid (((HX.out.put _ _).put _ _).put _ _),Lib.hid (((HY.out.put _ _).put _ _).put _ _)⟩)
    ·skip
     (go_simp;have HY:=sm_new HM 3 #[.int .i64 0,.int .i64 50,.int .i64 10,.int .i64 20,.int .i64 30];(try simp only[World.size_alloc]at HY);(first | (have HX:=sm_at HX (.cells #[.int .i64 0,.int .i64 50,.int .i64 10,.int .i64 20,.int .i64 30] 3)) | skip);have HM:=sm_alloc HM (.cells #[.int .i64 0,.int .i64 50,.int .i64 10,.int .i64 20,.int .i64 30] 3))
     refine hK.out _ _ ?_ (fun hHeld=>?_)
     ·exact Lib.hid HM.out.sm
     clear hK K
     try simp only[Act.put,sA,sB,sC]
     refine tr 3 (fun K hK=>?_)
     (go_simp;go_at_call 48;refine(provision_any _ _ _ _ _).mono ?_;rintro e w4 ⟨rfl,hb4⟩;(first | (have HY:=Lib.hid (HY.out.step hb4)) | skip);have HM:=Lib.hid (HM.out.step hb4);clear hb4)
     refine hK.out _ _ ?_ (fun hHeld=>?_)
     ·exact Lib.hid HM.out.sm
     clear hK K
     try simp only[Act.put,sA,sB,sC]
     refine tr 4 (fun K hK=>?_)
     (go_simp;go_at_call 48;refine(provision_any _ _ _ _ _).mono ?_;rintro e w4 ⟨rfl,hb4⟩;(first | (have HY:=Lib.hid (HY.out.step hb4)) | skip);have HM:=Lib.hid (HM.out.step hb4);clear hb4)
     refine hK.out _ _ ?_ (fun hHeld=>?_)
     ·exact Lib.hid HM.out.sm
     clear hK K
     try simp only[Act.put,sA,sB,sC]
     refine tr 5 (fun K hK=>?_)
     (go_simp;go_at_call 48;refine(provision_any _ _ _ _ _).mono ?_;rintro e w4 ⟨rfl,hb4⟩;(first | (have HY:=Lib.hid (HY.out.step hb4)) | skip);have HM:=Lib.hid (HM.out.step hb4);clear hb4)
     refine hK.out _ _ ?_ (fun hHeld=>?_)
     ·exact Lib.hid HM.out.sm
     clear hK K
     try simp only[Act.put,sA,sB,sC]
     refine tr 6 (fun K hK=>?_)
     (refine step_build_five rfl (.tmp 7) (.tmp 8) (.tmp 9) (.tmp 10) (.tmp 11) rfl (by rfl) (by rfl) (by rfl) (by rfl) (by rfl) _ rfl ?_;have HX:=sm_new HM 50 rowH.toArray;(try simp only[World.size_alloc]at HX);(first | (have HY:=sm_at HY (.cells rowH.toArray 50)) | skip);have HM:=sm_alloc HM (.cells rowH.toArray 50))
     refine hK.out _ _ ?_ (fun hHeld=>?_)
     ·exact Lib.hid HM.out.sm
     clear hK K
     try simp only[Act.put,sA,sB,sC]
     refine tp 8 ?_;refine tr 9 (fun K hK=>?_)
     (have z0:=HM.out.law.cell 0;have z1:=HM.out.law.cell 1;have z2:=HM.out.law.cell 2;have f0:=HM.out.law.frozen 0;have f1:=HM.out.law.frozen 1;have f2:=HM.out.law.frozen 2;go_simp)
     refine hK.out _ _ ?_ (fun hHeld=>?_)
     ·exact Lib.hid (((HM.out.sm.put _ _).put _ _).put _ _)
     clear hK K
     try simp only[Act.put,sA,sB,sC]
     refine wpAnyH_done (by kernel_rfl) ?_ _
     (go_wp2;go_meet;exact⟨_,_,Lib.hid (((HM.out.law.set 0 _).set 1 _).set 2 _),Lib.hid (((HM.out.sm.put _ _).put _ _).put _ _),Lib.hid (((HX.out.put _ _).put _ _).put _ _),Lib.hid (((HY.out.put _ _).put _ _).put _ _)⟩)
   ·skip
    (go_simp;have HY:=sm_new HM 3 #[.int .i64 0,.int .i64 50,.int .i64 10,.int .i64 20,.int .i64 30];(try simp only[World.size_alloc]at HY);(first | (have HX:=sm_at HX (.cells #[.int .i64 0,.int .i64 50,.int .i64 10,.int .i64 20,.int .i64 30] 3)) | skip);have HM:=sm_alloc HM (.cells #[.int .i64 0,.int .i64 50,.int .i64 10,.int .i64 20,.int .i64 30] 3))
    refine hK.out _ _ ?_ (fun hHeld=>?_)
    ·exact Lib.hid HM.out.sm
    clear hK K
    try simp only[Act.put,sA,sB,sC]
    refine tr 2 (fun K hK=>?_)
    (go_simp;go_at_call 48;refine(provision_any _ _ _ _ _).mono ?_;rintro e w4 ⟨rfl,hb4⟩;(first | (have HY:=Lib.hid (HY.out.step hb4)) | skip);have HM:=Lib.hid (HM.out.step hb4);clear hb4)
    refine hK.out _ _ ?_ (fun hHeld=>?_)
    ·exact Lib.hid HM.out.sm
    clear hK K
    try simp only[Act.put,sA,sB,sC]
    refine tr 3 (fun K hK=>?_)
    (go_simp;go_at_call 48;refine(provision_any _ _ _ _ _).mono ?_;rintro e w4 ⟨rfl,hb4⟩;(first | (have HY:=Lib.hid (HY.out.step hb4)) | skip);have HM:=Lib.hid (HM.out.step hb4);clear hb4)
    refine hK.out _ _ ?_ (fun hHeld=>?_)
    ·exact Lib.hid HM.out.sm
    clear hK K
    try simp only[Act.put,sA,sB,sC]
    refine tr 4 (fun K hK=>?_)
    (go_simp;go_at_call 48;refine(provision_any _ _ _ _ _).mono ?_;rintro e w4 ⟨rfl,hb4⟩;(first | (have HY:=Lib.hid (HY.out.step hb4)) | skip);have HM:=Lib.hid (HM.out.step hb4);clear hb4)
    refine hK.out _ _ ?_ (fun hHeld=>?_)
    ·exact Lib.hid HM.out.sm
    clear hK K
    try simp only[Act.put,sA,sB,sC]
    refine tr 5 (fun K hK=>?_)
    (go_simp;go_at_call 48;refine(provision_any _ _ _ _ _).mono ?_;rintro e w4 ⟨rfl,hb4⟩;(first | (have HY:=Lib.hid (HY.out.step hb4)) | skip);have HM:=Lib.hid (HM.out.step hb4);clear hb4)
    refine hK.out _ _ ?_ (fun hHeld=>?_)
    ·exact Lib.hid HM.out.sm
    clear hK K
    try simp only[Act.put,sA,sB,sC]
    refine tr 6 (fun K hK=>?_)
    (refine step_build_five rfl (.tmp 7) (.tmp 8) (.tmp 9) (.tmp 10) (.tmp 11) rfl (by rfl) (by rfl) (by rfl) (by rfl) (by rfl) _ rfl ?_;have HX:=sm_new HM 50 rowH.toArray;(try simp only[World.size_alloc]at HX);(first | (have HY:=sm_at HY (.cells rowH.toArray 50)) | skip);have HM:=sm_alloc HM (.cells rowH.toArray 50))
    refine hK.out _ _ ?_ (fun hHeld=>?_)
    ·exact Lib.hid HM.out.sm
    clear hK K
    try simp only[Act.put,sA,sB,sC]
    refine tp 8 ?_;refine tr 9 (fun K hK=>?_)
    (have z0:=HM.out.law.cell 0;have z1:=HM.out.law.cell 1;have z2:=HM.out.law.cell 2;have f0:=HM.out.law.frozen 0;have f1:=HM.out.law.frozen 1;have f2:=HM.out.law.frozen 2;go_simp)
    refine hK.out _ _ ?_ (fun hHeld=>?_)
    ·exact Lib.hid (((HM.out.sm.put _ _).put _ _).put _ _)
    clear hK K
    try simp only[Act.put,sA,sB,sC]
    refine wpAnyH_done (by kernel_rfl) ?_ _
    (go_wp2;go_meet;exact⟨_,_,Lib.hid (((HM.out.law.set 0 _).set 1 _).set 2 _),Lib.hid (((HM.out.sm.put _ _).put _ _).put _ _),Lib.hid (((HX.out.put _ _).put _ _).put _ _),Lib.hid (((HY.out.put _ _).put _ _).put _ _)⟩)
  ·skip
   (go_simp;have HY:=sm_new HM 3 #[.int .i64 0,.int .i64 50,.int .i64 10,.int .i64 20,.int .i64 30];(try simp only[World.size_alloc]at HY);(first | (have HX:=sm_at HX (.cells #[.int .i64 0,.int .i64 50,.int .i64 10,.int .i64 20,.int .i64 30] 3)) | skip);have HM:=sm_alloc HM (.cells #[.int .i64 0,.int .i64 50,.int .i64 10,.int .i64 20,.int .i64 30] 3))
   refine hK.out _ _ ?_ (fun hHeld=>?_)
   ·exact Lib.hid HM.out.sm
   clear hK K
   try simp only[Act.put,sA,sB,sC]
   refine tr 1 (fun K hK=>?_)
   (go_simp;go_at_call 48;refine(provision_any _ _ _ _ _).mono ?_;rintro e w4 ⟨rfl,hb4⟩;(first | (have HY:=Lib.hid (HY.out.step hb4)) | skip);have HM:=Lib.hid (HM.out.step hb4);clear hb4)
   refine hK.out _ _ ?_ (fun hHeld=>?_)
   ·exact Lib.hid HM.out.sm
   clear hK K
   try simp only[Act.put,sA,sB,sC]
   refine tr 2 (fun K hK=>?_)
   (go_simp;go_at_call 48;refine(provision_any _ _ _ _ _).mono ?_;rintro e w4 ⟨rfl,hb4⟩;(first | (have HY:=Lib.hid (HY.out.step hb4)) | skip);have HM:=Lib.hid (HM.out.step hb4);clear hb4)
   refine hK.out _ _ ?_ (fun hHeld=>?_)
   ·exact Lib.hid HM.out.sm
   clear hK K
   try simp only[Act.put,sA,sB,sC]
   refine tr 3 (fun K hK=>?_)
   (go_simp;go_at_call 48;refine(provision_any _ _ _ _ _).mono ?_;rintro e w4 ⟨rfl,hb4⟩;(first | (have HY:=Lib.hid (HY.out.step hb4)) | skip);have HM:=Lib.hid (HM.out.step hb4);clear hb4)
   refine hK.out _ _ ?_ (fun hHeld=>?_)
   ·exact Lib.hid HM.out.sm
   clear hK K
   try simp only[Act.put,sA,sB,sC]
   refine tr 4 (fun K hK=>?_)
   (go_simp;go_at_call 48;refine(provision_any _ _ _ _ _).mono ?_;rintro e w4 ⟨rfl,hb4⟩;(first | (have HY:=Lib.hid (HY.out.step hb4)) | skip);have HM:=Lib.hid (HM.out.step hb4);clear hb4)
   refine hK.out _ _ ?_ (fun hHeld=>?_)
   ·exact Lib.hid HM.out.sm
   clear hK K
   try simp only[Act.put,sA,sB,sC]
   refine tr 5 (fun K hK=>?_)
   (go_simp;go_at_call 48;refine(provision_any _ _ _ _ _).mono ?_;rintro e w4 ⟨rfl,hb4⟩;(first | (have HY:=Lib.hid (HY.out.step hb4)) | skip);have HM:=Lib.hid (HM.out.step hb4);clear hb4)
   refine hK.out _ _ ?_ (fun hHeld=>?_)
   ·exact Lib.hid HM.out.sm
   clear hK K
   try simp only[Act.put,sA,sB,sC]
   refine tr 6 (fun K hK=>?_)
   (refine step_build_five rfl (.tmp 7) (.tmp 8) (.tmp 9) (.tmp 10) (.tmp 11) rfl (by rfl) (by rfl) (by rfl) (by rfl) (by rfl) _ rfl ?_;have HX:=sm_new HM 50 rowH.toArray;(try simp only[World.size_alloc]at HX);(first | (have HY:=sm_at HY (.cells rowH.toArray 50)) | skip);have HM:=sm_alloc HM (.cells rowH.toArray 50))
   refine hK.out _ _ ?_ (fun hHeld=>?_)
   ·exact Lib.hid HM.out.sm
   clear hK K
   try simp only[Act.put,sA,sB,sC]
   refine tp 8 ?_;refine tr 9 (fun K hK=>?_)
   (have z0:=HM.out.law.cell 0;have z1:=HM.out.law.cell 1;have z2:=HM.out.law.cell 2;have f0:=HM.out.law.frozen 0;have f1:=HM.out.law.frozen 1;have f2:=HM.out.law.frozen 2;go_simp)
   refine hK.out _ _ ?_ (fun hHeld=>?_)
   ·exact Lib.hid (((HM.out.sm.put _ _).put _ _).put _ _)
   clear hK K
   try simp only[Act.put,sA,sB,sC]
   refine wpAnyH_done (by kernel_rfl) ?_ _
   (go_wp2;go_meet;exact⟨_,_,Lib.hid (((HM.out.law.set 0 _).set 1 _).set 2 _),Lib.hid (((HM.out.sm.put _ _).put _ _).put _ _),Lib.hid (((HX.out.put _ _).put _ _).put _ _),Lib.hid (((HY.out.put _ _).put _ _).put _ _)⟩)
 case rest=>
  obtain⟨X,Y,HL,HS,HX,HY⟩:=hcut;rename World=>wx
  go_wp2
  have hlc:(loadCellsFrom ⟨w.heap.size,0,none⟩ 0 3 #[]).run Tryz.prog wx=.ok #[.slice (some ⟨w.heap.size+1,0,none⟩) 2 2,.slice (some ⟨X,0,none⟩) 5 5,.slice (some ⟨Y,0,none⟩) 5 5] wx:=
   run_loadCells_list (P:=Tryz.prog) wx ⟨w.heap.size,0,none⟩ [.slice (some ⟨w.heap.size+1,0,none⟩) 2 2,.slice (some ⟨X,0,none⟩) 5 5,.slice (some ⟨Y,0,none⟩) 5 5] (fun j v hv=>by rw[Addr.add_mid,Nat.zero_add,HL.out.cell];simpa using hv)
  refine bodyPost_ret (v:=.agg #[.slice (some ⟨w.heap.size+1,0,none⟩) 2 2,.slice (some ⟨X,0,none⟩) 5 5,.slice (some ⟨Y,0,none⟩) 5 5]) (by simp only[results,Tryz.results28,go_sem];simp[hlc];try rfl) rfl ?_
  have hd:SlIn FaR 4 wx wx.heap.size dH (.slice (some ⟨w.heap.size+1,0,none⟩) 2 2):=by
   refine⟨_,2,rfl,by decide,by decide,fun _=>⟨w.heap.size+1,0,rfl,HS.out.row.lt,fun i hi=>?_⟩⟩;have R:=HS.out.row
   match i,hi with
   | 0,_=>exact⟨R.cell 0,R.cell 1,R.cell 2,R.cell 3,dH_ok _ (by simp[dH])⟩
   | 1,_=>exact⟨R.cell 4,R.cell 5,R.cell 6,R.cell 7,dH_ok _ (by simp[dH])⟩
  have ht:SlIn (OneR (Value.int .i64)) 1 wx wx.heap.size tsH (.slice (some ⟨Y,0,none⟩) 5 5):=by
   refine⟨_,5,rfl,by decide,by decide,fun _=>⟨Y,0,rfl,HY.out.blk.lt,fun i hi=>?_⟩⟩;have R:=HY.out.blk
   match i,hi with
   | 0,_=>exact R.cell 0
   | 1,_=>exact R.cell 1
   | 2,_=>exact R.cell 2
   | 3,_=>exact R.cell 3
   | 4,_=>exact R.cell 4
  exact⟨_,rfl,HS.out.low,_,_,_,rfl,hd,rowH_in HX.out.blk HX.out.blk.lt,ht⟩
end
end Go.Proofs.YtmafmhlfjficmaaGreatDoor
