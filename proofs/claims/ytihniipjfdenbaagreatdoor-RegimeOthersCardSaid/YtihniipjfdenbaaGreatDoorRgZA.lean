/- What stands while a law of chapter 33 runs: a variable that holds the domain, the rules. No program but by contracts. -/
import Derived.Test.YtihniipjfdenbaaGreatDoorRgXA
import Derived.Test.YtihniipjfdenbaaGreatDoorRgHA
set_option maxRecDepth 100000
set_option maxHeartbeats 4000000
namespace Go.Proofs.YtihniipjfdenbaaGreatDoor
open Go.RowKit
theorem sample1_any (c n:Int)(w:World):Calls Tryz.prog 54 #[.int .i64 c,.int .i64 n] w fun e w'=>e=.returned (.agg #[.int .i64 3,.string ageB,.int .i64 c,.int .i64 n,.slice none 0 0])/\ Below w.heap.size w w':=by
 have HB:Hid (Below w.heap.size w (w.alloc (.cells #[.int .i64 3,.string ageB,.int .i64 c,.int .i64 n,.slice none 0 0] 47))):=(Below.refl _ _).alloc (Nat.le_refl _) _;go_enter Tryz.func54,Tryz.ntmps54;go_wp2;have K:=Blk.new w 47 #[.int .i64 3,.string (⟨#[97,103,101]⟩:ByteArray),.int .i64 c,.int .i64 n,.slice none 0 0]
 have hlc:(loadCellsFrom ⟨w.heap.size,0,none⟩ 0 5 #[]).run Tryz.prog (w.alloc (.cells #[.int .i64 3,.string (⟨#[97,103,101]⟩:ByteArray),.int .i64 c,.int .i64 n,.slice none 0 0] 47))=.ok #[.int .i64 3,.string (⟨#[97,103,101]⟩:ByteArray),.int .i64 c,.int .i64 n,.slice none 0 0] (w.alloc (.cells #[.int .i64 3,.string (⟨#[97,103,101]⟩:ByteArray),.int .i64 c,.int .i64 n,.slice none 0 0] 47)):=
  run_loadCells_list (P:=Tryz.prog) _ ⟨w.heap.size,0,none⟩ [.int .i64 3,.string (⟨#[97,103,101]⟩:ByteArray),.int .i64 c,.int .i64 n,.slice none 0 0] (fun j v hv=>by rw[Addr.add_mid,Nat.zero_add,K.cell];simpa using hv)
 refine bodyPost_ret (v:=.agg #[.int .i64 3,.string (⟨#[97,103,101]⟩:ByteArray),.int .i64 c,.int .i64 n,.slice none 0 0]) (by simp only[results,Tryz.results54,go_sem];simp[hlc];try rfl) rfl ?_;exact⟨rfl,HB.out⟩
theorem run_chO (w:World):(Instr.build 49 #[(0,.string oldB),(1,.string taxB),(2,.agg #[.int .i64 3,.string ageB,.int .i64 6,.int .i64 65,.slice none 0 0]),(3,.int .i64 20),(4,.bool true)]).run Tryz.prog w=.ok (.agg (chC oldC none 0).toArray) w:=by kernel_rfl
theorem run_chN (w:World):(Instr.build 49 #[(0,.string newB),(1,.string taxB),(2,.agg #[.int .i64 3,.string ageB,.int .i64 3,.int .i64 60,.slice none 0 0]),(3,.int .i64 20)]).run Tryz.prog w=.ok (.agg (chC newC none 0).toArray) w:=by kernel_rfl
def rowR :List Value:=chC oldC none 0++chC newC none 0
theorem run_two (w:World):(Instr.buildSlice 22 2 #[(0,.agg (chC oldC none 0).toArray),(1,.agg (chC newC none 0).toArray)]).run Tryz.prog w=.ok (.slice (some ⟨w.heap.size,0,none⟩) 2 2) (w.alloc (.cells rowR.toArray 49)):=by kernel_rfl
section
variable {ops : Array Oper} {rest : List Oper} {op : Oper} {a : Act} {w : World} {Q : Exit -> Act -> World -> Prop}
theorem wpList_chO (hgd:op.guard=none)(x0 x1 x2 x3 x4:Operand)(ho:op.op=.build 49 #[(0,x0),(1,x1),(2,x2),(3,x3),(4,x4)])(h0:a.eval x0=.string oldB)(h1:a.eval x1=.string taxB)(h2:a.eval x2=.agg #[.int .i64 3,.string ageB,.int .i64 6,.int .i64 65,.slice none 0 0])(h3:a.eval x3=.int .i64 20)(h4:a.eval x4=.bool true)
  (h:wpList Tryz.prog ops Q rest (a.put op.dst (.agg (chC oldC none 0).toArray)) w):wpList Tryz.prog ops Q (op::rest) a w:=
 wpList_plain hgd fun K hK=>by{unfold Oper.wp execOp;simp only[ho,List.map_toArray,List.map_cons,List.map_nil,h0,h1,h2,h3,h4,Sem.run_bind,run_chO,Result.andThen_ok,Sem.run_pure];exact hK _ _ h}
theorem wpList_chN (hgd:op.guard=none)(x0 x1 x2 x3:Operand)(ho:op.op=.build 49 #[(0,x0),(1,x1),(2,x2),(3,x3)])(h0:a.eval x0=.string newB)(h1:a.eval x1=.string taxB)(h2:a.eval x2=.agg #[.int .i64 3,.string ageB,.int .i64 3,.int .i64 60,.slice none 0 0])(h3:a.eval x3=.int .i64 20)
  (h:wpList Tryz.prog ops Q rest (a.put op.dst (.agg (chC newC none 0).toArray)) w):wpList Tryz.prog ops Q (op::rest) a w:=
 wpList_plain hgd fun K hK=>by{unfold Oper.wp execOp;simp only[ho,List.map_toArray,List.map_cons,List.map_nil,h0,h1,h2,h3,Sem.run_bind,run_chN,Result.andThen_ok,Sem.run_pure];exact hK _ _ h}
theorem wpList_two (hgd:op.guard=none)(x0 x1:Operand)(ho:op.op=.buildSlice 22 2 #[(0,x0),(1,x1)])(h0:a.eval x0=.agg (chC oldC none 0).toArray)(h1:a.eval x1=.agg (chC newC none 0).toArray)
  (h:wpList Tryz.prog ops Q rest (a.put op.dst (.slice (some ⟨w.heap.size,0,none⟩) 2 2)) (w.alloc (.cells rowR.toArray 49))):wpList Tryz.prog ops Q (op::rest) a w:=
 wpList_plain hgd fun K hK=>by{unfold Oper.wp execOp;simp only[ho,List.map_toArray,List.map_cons,List.map_nil,h0,h1,Sem.run_bind,run_two,Result.andThen_ok,Sem.run_pure];exact hK _ _ h}
end
theorem leafR_in (w:World)(B:Nat){nm:ByteArray}{c n:Int}(h1:W64 c)(h2:W64 n)(h3:nm.size<=maxLen):(Fo.mk 3 nm c n []).In w B (.agg #[.int .i64 3,.string nm,.int .i64 c,.int .i64 n,.slice none 0 0]):=
 ⟨none,0,rfl,by unfold W64;omega,h1,h2,h3,Nat.le_refl _,Nat.zero_le _,fun h=>absurd rfl h⟩
theorem rgD_ok :∀x∈rgD,x.name.size<=maxLen/\ W64 x.kind/\ W64 x.lo/\ W64 x.hi:=by
 intro x hx;simp only[rgD,List.mem_cons,List.not_mem_nil,or_false]at hx;subst hx;exact⟨by decide,⟨by decide,by decide⟩,⟨by decide,by decide⟩,⟨by decide,by decide⟩⟩
theorem rowR_in {W:World}{X B:Nat}(h:Blk W X 49 rowR.toArray)(hlt:X<B):SlIn ChR 9 W B rgL (.slice (some ⟨X,0,none⟩) 2 2):=by
 refine⟨_,2,rfl,by decide,by decide,fun _=>⟨X,0,rfl,hlt,fun i hi=>?_⟩⟩
 have key:∀(x:Chg) (k:Nat) (c n:Int) (r:List Value),rowR.drop (k*9)=chC x none 0++r->x.cond=.mk 3 ageB c n []->W64 c->W64 n->x.id.size<=maxLen->x.question.size<=maxLen->W64 x.day->ChR W B x X (0+k*9):=fun x k c n r hd hx h1 h2 h3 h4 h5=>by{refine⟨none,0,fun j v hv=>?_,?_,h3,h4,h5⟩;{have hj:j<(chC x none 0).length:=(List.getElem?_eq_some_iff.1 hv).1;have e:rowR[0+k*9+j]? =some v:=by{rw[Nat.zero_add, <-List.getElem?_drop,hd,List.getElem?_append_left hj];exact hv};rw[h.cell];simpa using e};{unfold condC;rw[hx];exact leafR_in W B h1 h2 (by decide)}}
 match i,hi with| 0,_=>exact key oldC 0 6 65 _ rfl rfl (by unfold W64;omega) (by unfold W64;omega) (by decide) (by decide) (by unfold W64;decide)| 1,_=>exact key newC 1 3 60 [] rfl rfl (by unfold W64;omega) (by unfold W64;omega) (by decide) (by decide) (by unfold W64;decide)
theorem sample_any (w:World):Calls Tryz.prog 22 #[] w fun e w'=>∃(al ad:Option Addr) (cl cd:Nat),e=.returned (.tuple #[.slice al 2 cl,.agg #[.slice ad 1 cd]])/\ SlIn ChR 9 w' w'.heap.size rgL (.slice al 2 cl)/\ DomIn w' w'.heap.size rgD (.agg #[.slice ad 1 cd])/\ Below w.heap.size w w':=by
 have hb1:Below w.heap.size w (w.alloc (.cells #[.slice none 0 0] 25)):=(Below.refl _ _).alloc (Nat.le_refl _) _;have KB:=Blk.new w 25 #[.slice none 0 0];have HB1:=Lib.hid hb1;have HK1:=Lib.hid KB;clear hb1 KB;go_enter Tryz.func22,Tryz.ntmps22
 go_wp2_with (first
  | (go_at_call 54;refine(sample1_any _ _ _).mono ?_;rintro e w2 ⟨rfl,hb2⟩;have HK1:=Lib.hid (HK1.out.below hb2);have k0:=HK1.out.cell 0;have kf:=HK1.out.frozen 0;have kl:=HK1.out.lt;have HB1:=Lib.hid (HB1.out.trans (hb2.mono HB1.out.size));clear hb2)
  | ((with_reducible show wpList _ _ _ (⟨_,Op.build 49 #[(0,_),(1,_),(2,_),(3,_),(4,_)],_,_,_,_⟩::_) _ _);refine wpList_chO rfl _ _ _ _ _ rfl rfl rfl rfl rfl rfl ?_)
  | ((with_reducible show wpList _ _ _ (⟨_,Op.build 49 #[(0,_),(1,_),(2,_),(3,_)],_,_,_,_⟩::_) _ _);refine wpList_chN rfl _ _ _ _ rfl rfl rfl rfl rfl ?_)
  | ((with_reducible show wpList _ _ _ (⟨_,Op.buildSlice 22 2 _,_,_,_,_⟩::_) _ _);refine wpList_two rfl _ _ rfl rfl rfl ?_))
 have hsz:(w2.setCell ⟨w.heap.size,0,none⟩ (.slice (some ⟨w2.heap.size+1,0,none⟩) 1 1)).heap.size=w2.heap.size:=World.size_setCell ..;have KD:Blk (((w2.setCell ⟨w.heap.size,0,none⟩ (.slice (some ⟨w2.heap.size+1,0,none⟩) 1 1)).alloc (.cells rowR.toArray 49)).alloc (.cells #[.string (⟨#[97,103,101]⟩:ByteArray),.int .i64 2,.int .i64 0,.int .i64 150] 86)) w.heap.size 25 #[.slice (some ⟨w2.heap.size+1,0,none⟩) 1 1]:=((blk_one HK1.out _).alloc _).alloc _
 have KR:Blk (((w2.setCell ⟨w.heap.size,0,none⟩ (.slice (some ⟨w2.heap.size+1,0,none⟩) 1 1)).alloc (.cells rowR.toArray 49)).alloc (.cells #[.string (⟨#[97,103,101]⟩:ByteArray),.int .i64 2,.int .i64 0,.int .i64 150] 86)) w2.heap.size 49 rowR.toArray:=by{have q:=(Blk.new (w2.setCell ⟨w.heap.size,0,none⟩ (.slice (some ⟨w2.heap.size+1,0,none⟩) 1 1)) 49 rowR.toArray).alloc (.cells #[.string (⟨#[97,103,101]⟩:ByteArray),.int .i64 2,.int .i64 0,.int .i64 150] 86);rw[hsz]at q;exact q}
 have KF:Blk (((w2.setCell ⟨w.heap.size,0,none⟩ (.slice (some ⟨w2.heap.size+1,0,none⟩) 1 1)).alloc (.cells rowR.toArray 49)).alloc (.cells #[.string (⟨#[97,103,101]⟩:ByteArray),.int .i64 2,.int .i64 0,.int .i64 150] 86)) (w2.heap.size+1) 86 #[.string (⟨#[97,103,101]⟩:ByteArray),.int .i64 2,.int .i64 0,.int .i64 150]:=by{have q:=Blk.new ((w2.setCell ⟨w.heap.size,0,none⟩ (.slice (some ⟨w2.heap.size+1,0,none⟩) 1 1)).alloc (.cells rowR.toArray 49)) 86 #[.string (⟨#[97,103,101]⟩:ByteArray),.int .i64 2,.int .i64 0,.int .i64 150];rw[World.size_alloc,hsz]at q;exact q}
 have HBF:Hid (Below w.heap.size w (((w2.setCell ⟨w.heap.size,0,none⟩ (.slice (some ⟨w2.heap.size+1,0,none⟩) 1 1)).alloc (.cells rowR.toArray 49)).alloc (.cells #[.string (⟨#[97,103,101]⟩:ByteArray),.int .i64 2,.int .i64 0,.int .i64 150] 86))):=
  ((HB1.out.setCell (p:=⟨w.heap.size,0,none⟩) (Nat.le_refl _) _).alloc (by rw[hsz];exact HB1.out.size) _).alloc (by rw[World.size_alloc,hsz];have:=HB1.out.size;omega) _
 generalize((w2.setCell ⟨w.heap.size,0,none⟩ (.slice (some ⟨w2.heap.size+1,0,none⟩) 1 1)).alloc (.cells rowR.toArray 49)).alloc (.cells #[.string (⟨#[97,103,101]⟩:ByteArray),.int .i64 2,.int .i64 0,.int .i64 150] 86)=WF at*
 have hcs:=KD.cell 0;refine bodyPost_ret (v:=.tuple #[.slice (some ⟨w2.heap.size,0,none⟩) 2 2,.agg #[.slice (some ⟨w2.heap.size+1,0,none⟩) 1 1]]) (by simp[results,Tryz.results22,go_sem,hcs];try rfl) rfl ?_;refine⟨_,_,2,1,rfl,rowR_in KR KR.lt,⟨_,rfl,_,1,rfl,by decide,by decide,fun _=>⟨w2.heap.size+1,0,rfl,KF.lt,fun i hi=>?_⟩⟩,HBF.out⟩
 match i,hi with| 0,_=>exact⟨KF.cell 0,KF.cell 1,KF.cell 2,KF.cell 3,rgD_ok _ (List.getElem_mem _)⟩
theorem keys_rg :keysD rgL=rgK:=(keysD_eq rg_keys).symm
structure HdR (w W : World) (b : Nat) (al ad : Option Addr) (cl cd : Nat) : Prop where
 box:Blk W b 25 #[.slice ad 1 cd]
 l:SlIn ChR 9 W W.heap.size rgL (.slice al 2 cl)
 dom:DomIn W W.heap.size rgD (.agg #[.slice ad 1 cd])
 tab:TabH W.heap.size W
 low:Below w.heap.size w W
section
variable {w W W' : World} {b : Nat} {al ad : Option Addr} {cl cd : Nat}
theorem HdR.step (h:HdR w W b al ad cl cd)(hb:Below W.heap.size W W'):HdR w W' b al ad cl cd:=
 ⟨h.box.below hb,SlIn.mono ChR.mono hb.size (h.l.below ChR.kept hb),(h.dom.below hb).mono hb.size,fun w' h'=>h.tab w' (hb.trans (h'.mono hb.size)),h.low.trans (hb.mono h.low.size)⟩
theorem one_new (W:World)(x:Int):IntsIn (W.alloc (.cells #[.int .i64 x] 3)) (W.alloc (.cells #[.int .i64 x] 3)).heap.size [x] (.slice (some ⟨W.heap.size,0,none⟩) 1 1):=
 ⟨_,1,rfl,Nat.le_refl _,by decide,fun _=>⟨W.heap.size,0,rfl,by simp,fun i hi=>by
  match i,hi with
  | 0,_=>exact(Blk.new W 3 #[.int .i64 x]).cell 0⟩⟩
theorem rg_size :∀p∈rgL,p.cond.size<=1000000:=by
 intro p hp;simp only[rgL,List.mem_cons,List.not_mem_nil,or_false]at hp;rcases hp with rfl | rfl<;>decide
theorem hd_gov (h:Hid (HdR w W b al ad cl cd)){o x a e0:Int}(hx:govA rgD rgL rgK taxB o [x] 30=(a,e0)):
  Calls Tryz.prog 12 #[.slice al 2 cl,.agg #[.slice ad 1 cd],.string taxB,.int .i64 o,.slice (some ⟨W.heap.size,0,none⟩) 1 1,.int .i64 30] (W.alloc (.cells #[.int .i64 x] 3)) fun e W'=>e=.returned (.tuple #[.int .i64 a,.int .i64 e0])/\ Hid (HdR w W' b al ad cl cd):=by
 have hb:Below W.heap.size W (W.alloc (.cells #[.int .i64 x] 3)):=(Below.refl _ _).alloc (Nat.le_refl _) _;have h2:=h.out.step hb;refine(governs_any rgD rgL taxB o [x] 30 _ _ _ _ _ (by decide) (Nat.le_refl _) h2.l h2.dom (one_new W x) rg_size).mono ?_;rintro e w' ⟨ks,hk,rfl,hb'⟩;have e1:govA rgD rgL ks taxB o [x] 30=(a,e0):=by rw[gov_eq hk];unfold govD;rw[keys_rg];exact hx
 rw[e1];exact⟨rfl,h2.step hb'⟩
theorem hd_ana (h:Hid (HdR w W b al ad cl cd)):Calls Tryz.prog 14 #[.slice al 2 cl,.agg #[.slice ad 1 cd]] W fun e W'=>∃(a:Option Addr) (c:Nat),e=.returned (.tuple #[.slice a 1 c,.int .i64 0])/\ Hid (SlIn FnR 5 W' W'.heap.size [rgF] (.slice a 1 c))/\ Hid (HdR w W' b al ad cl cd):=by
 refine(analyse_any rgD rgL _ _ W (by decide) h.out.l h.out.dom rg_size h.out.tab).mono ?_;rintro e w' ⟨a,c,rfl,h1,h2⟩;have e1:anaD rgD rgL=([rgF],0):=by unfold anaD;rw[keys_rg];exact ana_rg
 rw[e1]at h1⊢;exact⟨a,c,rfl,h1,h.out.step h2⟩
end
theorem want_in (W:World):SlIn FnR 5 (((W.alloc (.cells #[.int .i64 60] 3)).alloc (.cells #[.string (⟨#[111,108,100]⟩:ByteArray),.string (⟨#[110,101,119]⟩:ByteArray)] 9)).alloc (.cells #[.int .i64 1,.string (⟨#[116,97,120]⟩:ByteArray),.int .i64 20,.slice (some ⟨W.heap.size,0,none⟩) 1 1,.slice (some ⟨W.heap.size+1,0,none⟩) 2 2] 40)) ((((W.alloc (.cells #[.int .i64 60] 3)).alloc (.cells #[.string (⟨#[111,108,100]⟩:ByteArray),.string (⟨#[110,101,119]⟩:ByteArray)] 9)).alloc (.cells #[.int .i64 1,.string (⟨#[116,97,120]⟩:ByteArray),.int .i64 20,.slice (some ⟨W.heap.size,0,none⟩) 1 1,.slice (some ⟨W.heap.size+1,0,none⟩) 2 2] 40))).heap.size [rgF] (.slice (some ⟨W.heap.size+1+1,0,none⟩) 1 1)/\ Below W.heap.size W (((W.alloc (.cells #[.int .i64 60] 3)).alloc (.cells #[.string (⟨#[111,108,100]⟩:ByteArray),.string (⟨#[110,101,119]⟩:ByteArray)] 9)).alloc (.cells #[.int .i64 1,.string (⟨#[116,97,120]⟩:ByteArray),.int .i64 20,.slice (some ⟨W.heap.size,0,none⟩) 1 1,.slice (some ⟨W.heap.size+1,0,none⟩) 2 2] 40)):=by
 have K0:Blk (((W.alloc (.cells #[.int .i64 60] 3)).alloc (.cells #[.string (⟨#[111,108,100]⟩:ByteArray),.string (⟨#[110,101,119]⟩:ByteArray)] 9)).alloc (.cells #[.int .i64 1,.string (⟨#[116,97,120]⟩:ByteArray),.int .i64 20,.slice (some ⟨W.heap.size,0,none⟩) 1 1,.slice (some ⟨W.heap.size+1,0,none⟩) 2 2] 40)) W.heap.size 3 #[.int .i64 60]:=((Blk.new W 3 #[.int .i64 60]).alloc _).alloc _
 have K1:Blk (((W.alloc (.cells #[.int .i64 60] 3)).alloc (.cells #[.string (⟨#[111,108,100]⟩:ByteArray),.string (⟨#[110,101,119]⟩:ByteArray)] 9)).alloc (.cells #[.int .i64 1,.string (⟨#[116,97,120]⟩:ByteArray),.int .i64 20,.slice (some ⟨W.heap.size,0,none⟩) 1 1,.slice (some ⟨W.heap.size+1,0,none⟩) 2 2] 40)) (W.heap.size+1) 9 #[.string (⟨#[111,108,100]⟩:ByteArray),.string (⟨#[110,101,119]⟩:ByteArray)]:=by{have q:=(Blk.new (W.alloc (.cells #[.int .i64 60] 3)) 9 #[.string (⟨#[111,108,100]⟩:ByteArray),.string (⟨#[110,101,119]⟩:ByteArray)]).alloc (.cells #[.int .i64 1,.string (⟨#[116,97,120]⟩:ByteArray),.int .i64 20,.slice (some ⟨W.heap.size,0,none⟩) 1 1,.slice (some ⟨W.heap.size+1,0,none⟩) 2 2] 40);rw[World.size_alloc]at q;exact q}
 have K2:Blk (((W.alloc (.cells #[.int .i64 60] 3)).alloc (.cells #[.string (⟨#[111,108,100]⟩:ByteArray),.string (⟨#[110,101,119]⟩:ByteArray)] 9)).alloc (.cells #[.int .i64 1,.string (⟨#[116,97,120]⟩:ByteArray),.int .i64 20,.slice (some ⟨W.heap.size,0,none⟩) 1 1,.slice (some ⟨W.heap.size+1,0,none⟩) 2 2] 40)) (W.heap.size+1+1) 40 #[.int .i64 1,.string (⟨#[116,97,120]⟩:ByteArray),.int .i64 20,.slice (some ⟨W.heap.size,0,none⟩) 1 1,.slice (some ⟨W.heap.size+1,0,none⟩) 2 2]:=by{have q:=Blk.new ((W.alloc (.cells #[.int .i64 60] 3)).alloc (.cells #[.string (⟨#[111,108,100]⟩:ByteArray),.string (⟨#[110,101,119]⟩:ByteArray)] 9)) 40 #[.int .i64 1,.string (⟨#[116,97,120]⟩:ByteArray),.int .i64 20,.slice (some ⟨W.heap.size,0,none⟩) 1 1,.slice (some ⟨W.heap.size+1,0,none⟩) 2 2];rw[World.size_alloc,World.size_alloc]at q;exact q}
 refine⟨⟨_,1,rfl,Nat.le_refl _,by decide,fun _=>⟨W.heap.size+1+1,0,rfl,K2.lt,fun i hi=>?_⟩⟩,(((Below.refl _ _).alloc (Nat.le_refl _) _).alloc (by simp) _).alloc (by simp;omega) _⟩
 match i,hi with
 | 0,_=>
  refine⟨⟨rgF,some ⟨W.heap.size,0,none⟩,1,some ⟨W.heap.size+1,0,none⟩,2⟩,rfl,fun j v hv=>?_,?_,?_⟩
  ·rw[Nat.zero_add,K2.cell, <-hv]
   match j with| 0=>rfl| 1=>rfl| 2=>rfl| 3=>rfl| 4=>rfl| j+5=>rfl
  ·refine⟨_,1,rfl,Nat.le_refl _,by decide,fun _=>⟨W.heap.size,0,rfl,K0.lt,fun i hi=>?_⟩⟩
   match i,hi with| 0,_=>exact K0.cell 0
  ·refine⟨_,2,rfl,Nat.le_refl _,by decide,fun _=>⟨W.heap.size+1,0,rfl,K1.lt,fun i hi=>?_⟩⟩
   match i,hi with| 0,_=>exact K1.cell 0| 1,_=>exact K1.cell 1
theorem head33_any (w:World)(hT:TabH w.heap.size w):Calls Tryz.prog 9 #[] w fun e w'=>e=.returned (.bool true)/\ Below w.heap.size w w':=by
 have HT:=Lib.hid hT;clear hT;go_enter Tryz.func9,Tryz.ntmps9;go_upto_region 2 with(go_at_call 22;refine(sample_any w).mono ?_;rintro e w1 ⟨al,ad,cl,cd,rfl,h1,h2,hb1⟩)
 have HH:Hid (HdR w (w1.alloc (.cells #[.slice ad 1 cd] 25)) w1.heap.size al ad cl cd):=by{have hb2:Below w1.heap.size w1 (w1.alloc (.cells #[.slice ad 1 cd] 25)):=(Below.refl _ _).alloc (Nat.le_refl _) _;have hbw:=hb1.trans (hb2.mono hb1.size);exact⟨Blk.new _ _ _,SlIn.mono ChR.mono hb2.size (h1.below ChR.kept hb2),(h2.below hb2).mono hb2.size,fun w' h'=>HT.out w' (hbw.trans (h'.mono hbw.size)),hbw⟩}
 generalize w1.heap.size=b at*
 generalize w1.alloc (.cells #[.slice ad 1 cd] 25)=W1 at*
 clear h1 h2 hb1;have y0:=HH.out.box.cell 0;go_upto_region 3 with(go_at_call 12;refine(hd_gov HH (by first | exact gov_70 | exact gov_30 | exact gov_62 | exact gov_20)).mono ?_;rintro e w2 ⟨rfl,HH2⟩;clear y0;have HH:=HH2;clear HH2;have y0:=HH.out.box.cell 0);go_upto_region 4 with(go_at_call 12;refine(hd_gov HH (by first | exact gov_70 | exact gov_30 | exact gov_62 | exact gov_20)).mono ?_;rintro e w2 ⟨rfl,HH2⟩;clear y0;have HH:=HH2;clear HH2;have y0:=HH.out.box.cell 0);go_upto_region 5 with(go_at_call 12;refine(hd_gov HH (by first | exact gov_70 | exact gov_30 | exact gov_62 | exact gov_20)).mono ?_;rintro e w2 ⟨rfl,HH2⟩;clear y0;have HH:=HH2;clear HH2;have y0:=HH.out.box.cell 0);go_upto_region 6 with(go_at_call 12;refine(hd_gov HH (by first | exact gov_70 | exact gov_30 | exact gov_62 | exact gov_20)).mono ?_;rintro e w2 ⟨rfl,HH2⟩;clear y0;have HH:=HH2;clear HH2;have y0:=HH.out.box.cell 0);go_upto_region 7 with(go_at_call 14;refine(hd_ana HH).mono ?_;rintro e w2 ⟨af,cf,rfl,HFN,HH2⟩;clear y0;have HH:=HH2;clear HH2);rename World=>W
 obtain⟨hwn,hbw⟩:=want_in W;have HSM:=Lib.hid (same33_any [rgF] (.slice af 1 cf) _ (((W.alloc (.cells #[.int .i64 60] 3)).alloc (.cells #[.string (⟨#[111,108,100]⟩:ByteArray),.string (⟨#[110,101,119]⟩:ByteArray)] 9)).alloc (.cells #[.int .i64 1,.string (⟨#[116,97,120]⟩:ByteArray),.int .i64 20,.slice (some ⟨W.heap.size,0,none⟩) 1 1,.slice (some ⟨W.heap.size+1,0,none⟩) 2 2] 40)) (SlIn.mono FnR.mono hbw.size (HFN.out.below FnR.kept hbw)) hwn);have HBW:=Lib.hid (HH.out.low.trans (hbw.mono HH.out.low.size));clear hwn hbw;go_wp2_with (go_at_call 16;refine HSM.out.mono ?_;rintro e w3 ⟨rfl,hb3⟩);go_ret;exact⟨rfl,HBW.out.trans (hb3.mono HBW.out.size)⟩
structure LwR (w W : World) (b : Nat) (d : List Fa) (l : List Chg) (v u : Value) (cs : Array Value) : Prop where
 box:Blk W b 25 cs
 l:SlIn ChR 9 W W.heap.size l v
 dom:DomIn W W.heap.size d u
 tab:TabH W.heap.size W
 low:Below w.heap.size w W
section
variable {w W W' : World} {b : Nat} {d : List Fa} {l : List Chg} {v u : Value} {cs : Array Value}
theorem LwR.step (h:LwR w W b d l v u cs)(hb:Below W.heap.size W W'):LwR w W' b d l v u cs:=
 ⟨h.box.below hb,SlIn.mono ChR.mono hb.size (h.l.below ChR.kept hb),(h.dom.below hb).mono hb.size,fun w' h'=>h.tab w' (hb.trans (h'.mono hb.size)),h.low.trans (hb.mono h.low.size)⟩
theorem lwr_start {w:World}(hl:SlIn ChR 9 w w.heap.size l v)(hd:DomIn w w.heap.size d u)(hT:TabH w.heap.size w):Hid (LwR w (w.alloc (.cells cs 25)) w.heap.size d l v u cs):=by
 have hb:Below w.heap.size w (w.alloc (.cells cs 25)):=(Below.refl _ _).alloc (Nat.le_refl _) _;exact⟨Blk.new w _ _,SlIn.mono ChR.mono hb.size (hl.below ChR.kept hb),(hd.below hb).mono hb.size,fun w' h'=>hT w' (hb.trans (h'.mono hb.size)),hb⟩
theorem lwr_case {c:List Int}{cv:Value}(h:Hid (LwR w W b d l v u cs))(hc:Hid (IntsIn w w.heap.size c cv)):IntsIn W W.heap.size c cv:=SlIn.mono (OneR.mono _) h.out.low.size (SlIn.below (OneR.kept _) h.out.low hc.out)
theorem lwr_head (h:Hid (LwR w W b d l v u cs)):Calls Tryz.prog 9 #[] W fun e W'=>e=.returned (.bool true)/\ Hid (LwR w W' b d l v u cs):=by
 refine(head33_any W h.out.tab).mono ?_;rintro e w' ⟨rfl,hb⟩;exact⟨rfl,h.out.step hb⟩
theorem lwr_few (h:Hid (LwR w W b d l v u cs)){R:Bool}(hR:fewC l d=R):Calls Tryz.prog 10 #[v,u] W fun e W'=>e=.returned (.bool R)/\ Hid (LwR w W' b d l v u cs):=by
 refine(fewL_any l d v u W h.out.l h.out.dom).mono ?_;rintro e w' ⟨rfl,hb⟩;exact⟨by rw[hR],h.out.step hb⟩
end
end Go.Proofs.YtihniipjfdenbaaGreatDoor
