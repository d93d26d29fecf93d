/- slices.SortFunc at no element. No conditions. -/
import Derived.Test.YtdipkbobalnilaaGreatDoorRkPA
import Derived.Test.YtdipkbobalnilaaGreatDoorCircA
import Derived.Shelf.SlSortCmp.NoneTotal
set_option maxRecDepth 100000
set_option maxHeartbeats 8000000
namespace Go.Proofs.YtdipkbobalnilaaGreatDoor
open Go.RowKit
theorem Q1:(Tryz.prog.info? 38).map (λi=>(i.size,i.zero.map (·.cells.size),i.bytes))=some (23,some 23,312):=by kernel_rfl
theorem ZL:∃i z,Tryz.prog.info? 38=some i/\i.size=23/\i.zero=some z/\z.cells.size=23/\i.bytes=312:=by
 grind [Q1,Option.map_eq_some_iff]
theorem Iu(p:Pv)(ak:Option Addr)(ck:Nat)(ae:Option Addr)(ce:Nat)(w:World):
  (Instr.buildSlice 25 1 #[(0,.agg (Cl p ak ck ae ce).toArray)]).run Tryz.prog w=.ok (.slice (some ⟨w.heap.size,0,none⟩) 1 1) (w.alloc (.cells (Cl p ak ck ae ce).toArray 38)):=by
 obtain⟨i,z,hi,hs,hz,M4,_⟩:=ZL;exact Ql (Cl p ak ck ae ce) Tryz.underlying25 hi hs hz M4 (by rw[Du];decide) (by rw[Du];decide) w
structure gx where
 p:Pv
 ak:Option Addr
 ck:Nat
 ae:Option Addr
 ce:Nat
def gx.cells(x:gx):List Value:=Cl x.p x.ak x.ck x.ae x.ce
def gx.Ok(W:World)(B:Nat)(x:gx):Prop:=
 x.p.cond.In W B (.agg #[.int .i64 x.p.cond.op,.string x.p.cond.name,.int .i64 x.p.cond.cmp,.int .i64 x.p.cond.n,.slice x.ak x.p.cond.kids.length x.ck])/\Sc W B x.p.except (.slice x.ae x.p.except.length x.ce)/\x.p.id.size<=maxLen/\x.p.name.size<=maxLen
theorem xS(x:Pv)(ak:Option Addr)(ck:Nat)(ae:Option Addr)(ce:Nat):∀u∈Cl x ak ck ae ce,u.oneCell'=true:=λu hu=>by
 grind [Tq]
theorem rI:∀(xs:List gx) (i j:Nat) (hi:i<xs.length),j<23->(xs.flatMap gx.cells)[i*23+j]? =xs[i].cells[j]?
 | x::xs,0,j,_,hj=>by{rw[List.flatMap_cons,List.getElem?_append_left (by show _<23;omega)];simp}
 | x::xs,i+1,j,hi,hj=>by{rw[List.flatMap_cons,List.getElem?_append_right (by show 23<=_;omega),show(i+1)*23+j-x.cells.length=i*23+j by show _-23=_;omega,rI xs i j (by grind) hj];simp}
theorem gW{W:World}{base:Nat}{v:Value}{xs:List gx}(h:W.ownsRow base 38 23 v xs.length (xs.flatMap gx.cells)){B:Nat}(hB:W.heap.size<=B)(hx:∀x∈xs,x.Ok W B):Sa jm 23 W B (xs.map (·.p)) v:=by
 rcases h.2 with⟨rfl,h0⟩|⟨g,cap,Aq,rfl,_,hg,h1,h2,h3,h4⟩
 {have:=List.length_eq_zero_iff.1 h0;subst this;exact⟨none,0,rfl,Nat.zero_le _,(by omega),λe=>absurd rfl e⟩}
 ·refine⟨_,cap,by grind,by grind,h2,λ_=>⟨g,0,rfl,Nat.lt_of_lt_of_le (Array.getElem?_eq_some_iff.1 hg).1 hB,λi hi=>?_⟩⟩
  have hi':i<xs.length:=by grind
  obtain⟨k1,k2,k3,k4⟩:=hx _ (List.getElem_mem hi');rw[List.getElem_map];refine⟨_,_,_,_,λj u hj=>?_,k1,k2,k3,k4⟩
  have hj':j<23:=by{(rcases Nat.lt_or_ge j 23 with h|h);{exact h};{rw[List.getElem?_eq_none (by exact h)]at hj;cases hj}}
  have h5:(Aq.toList.take (xs.length*23))[i*23+j]? =(xs.flatMap gx.cells)[i*23+j]? :=by rw[h4]
  rw[List.getElem?_take_of_lt (by omega),rI xs i j hi' hj']at h5
  show W.cell? _=some u
  simp only[World.cell?,hg]
  have:Aq[i*23+j]? =some u:=by{rw[<-Array.getElem?_toList,h5];exact hj}
  grind
theorem zB{a:Act}{w:World}{o:Oper}(x:Operand)(ho:o.op=.buildSlice 25 1 #[(0,x)])(p:Pv)(ak:Option Addr)(ck:Nat)(ae:Option Addr)(ce:Nat)(hx:a.eval x=.agg (Cl p ak ck ae ce).toArray):
  (execOp a.eval o).run Tryz.prog w=.ok (.value (.slice (some ⟨w.heap.size,0,none⟩) 1 1)) (w.alloc (.cells (Cl p ak ck ae ce).toArray 38)):=by
 grind [execOp,Sem.run_bind,Iu,Result.andThen_ok,Sem.run_pure]
theorem tI{op:Oper}{a:Act}{w:World}{K:Act->World->Prop}{Q:Exit->Act->World->Prop}(x:Operand)(ho:op.op=.buildSlice 25 1 #[(0,x)])(p:Pv)(ak:Option Addr)(ck:Nat)(ae:Option Addr)(ce:Nat)(hx:a.eval x=.agg (Cl p ak ck ae ce).toArray)
  (h:K (a.put op.dst (.slice (some ⟨w.heap.size,0,none⟩) 1 1)) (w.alloc (.cells (Cl p ak ck ae ce).toArray 38))):op.wp Tryz.prog a w K Q:=by
 unfold Oper.wp;rw[zB x ho p ak ck ae ce hx];exact h
theorem Kx{ops:Array Oper}{rest:List Oper}{op:Oper}{a:Act}{w:World}{Q:Exit->Act->World->Prop}(E_:op.guard=none)(x:Operand)(ho:op.op=.buildSlice 25 1 #[(0,x)])(p:Pv)(ak:Option Addr)(ck:Nat)(ae:Option Addr)(ce:Nat)(hx:a.eval x=.agg (Cl p ak ck ae ce).toArray)
  (h:wpList Tryz.prog ops Q rest (a.put op.dst (.slice (some ⟨w.heap.size,0,none⟩) 1 1)) (w.alloc (.cells (Cl p ak ck ae ce).toArray 38))):wpList Tryz.prog ops Q (op::rest) a w:=
 wpList_plain E_ λ_ hK=>tI x ho p ak ck ae ce hx (hK _ _ h)
theorem gx.Ok.up{W W':World}{B:Nat}{x:gx}(h:x.Ok W B)(hb:Below B W W'):x.Ok W' B:=⟨h.1.below hb,Sc.below hb h.2.1,h.2.2⟩
theorem gx.Ok.mono{W:World}{B B':Nat}{x:gx}(h:x.Ok W B)(hb:B<=B'):x.Ok W B':=⟨Fo.In.mono hb _ _ h.1,Sa.mono (Ad.mono _) hb h.2.1,h.2.2⟩
open Go.RowKit Tj
def iV(x:Int):Value:=.int .i64 x
def Uo:Nat->List Nat->List (Int×Int)
 | _,[]=>[]
 | k,x::l=>((x:Int),(k:Int))::Uo (k+1) l
theorem uI:∀(k:Nat) (l:List Nat),(Uo k l).length=l.length
 | _,[]=>rfl
 | k,x::l=>by simp[Uo,uI _ l]
theorem pD:∀(k:Nat) (l:List Nat) (x:Nat),Uo k (l++[x])=Uo k l++[((x:Int),((k+l.length:Nat):Int))]
 | k,[],x=>by simp[Uo]
 | k,y::l,x=>by{rw[List.cons_append,Uo,Uo,pD,List.cons_append,List.length_cons];rw[show k+1+l.length=k+(l.length+1) by omega]}
theorem Ak:∀(k:Nat) (l:List Nat) (x:Nat),(Uo k l).lookup (x:Int)=if x∈l then some ((k+l.idxOf x:Nat):Int)else none
 | k,[],x=>by simp[Uo]
 | k,y::l,x=>by{rw[Uo,List.lookup_cons];by_cases h:x=y;{subst h;simp};{(have hf:(x==(y:Int))=false:=by simp;omega);rw[hf];simp only;rw[Ak];(have hne:(y==x)=false:=by simp;exact λe=>h e.symm);by_cases hm:x∈l;{rw[if_pos hm,if_pos (List.mem_cons_of_mem _ hm),List.idxOf_cons,hne];simp only[cond_false];rw[show k+1+l.idxOf x=k+(l.idxOf x+1) by omega]};{rw[if_neg hm,if_neg (by simp[h,hm])]}}}
structure Fr (w0 : World) (H : Nat) (W : World) : Prop where
 os:W.os=w0.os
 tape:W.tape=w0.tape
 output:W.output=w0.output
 xL:w0.heap.size<=W.heap.size
 size:H+10<=W.heap.size
 fr:∀b,b<H+10->b≠H+1->b≠H+2->b≠H+3->b≠H+4->b≠H+7->W.heap[b]? =w0.heap[b]?
theorem Fr.grown{w0 W W':World}{H:Nat}(h:Fr w0 H W){row:Option Nat}(hg:W.grownBy W' row)(hr:∀b,row=some b->b=H+1\/b=H+2\/b=H+3\/b=H+4\/b=H+7\/H+10<=b):Fr w0 H W':=
 ⟨hg.os.trans h.os,hg.tape.trans h.tape,hg.output.trans h.output,Nat.le_trans h.xL hg.size,Nat.le_trans h.size hg.size,λb hb h1 h2 h3 h4 h7=>
  (hg.block b (by have:=h.size;omega) (λe=>by grind)).trans (h.fr b hb h1 h2 h3 h4 h7)⟩
theorem Fr.Pd{w0 W:World}{H b:Nat}(h:Fr w0 H W){t:TypeId}{cs:Array Value}(hb:qb w0 b t cs)(hlt:b<H+10)(h1:b≠H+1:=by omega)(h2:b≠H+2:=by omega)(h3:b≠H+3:=by omega)(h4:b≠H+4:=by omega)(h7:b≠H+7:=by omega):qb W b t cs:=
 (h.fr b hlt h1 h2 h3 h4 h7).trans hb
theorem Fr.below{w0 W:World}{H:Nat}(h:Fr w0 H W):Below (H+1) w0 W:=⟨h.os,h.tape,h.output,h.xL,λb hb=>h.fr b (by omega) (by omega) (by omega) (by omega) (by omega) (by omega)⟩
theorem Fr.start{w0:World}{H:Nat}(h:H+10<=w0.heap.size):Fr w0 H w0:=⟨rfl,rfl,rfl,(by omega),h,λ_ _ _ _ _ _ _=>rfl⟩
theorem Wb.grown{κ ν:Type}{ek:κ->Value}{ev:ν->Value}{W W':World}{b:Nat}{l:List (κ×ν)}(h:Wb ek ev W b l){row:Option Nat}(hg:W.grownBy W' row)(hne:some b≠row):Wb ek ev W' b l:=
 h.of_block (hg.block b h.lt hne)
structure qp (W : World) (H : Nat) (st : List Nat) (v : Value) : Prop where
 Pd:qb W (H+2) 26 #[v]
 own:W.ownsRow (H+10) 3 1 v st.length (st.map nV)
theorem qp.grown{W W':World}{H:Nat}{st:List Nat}{v:Value}(h:qp W H st v){row:Option Nat}(hg:W.grownBy W' row)(h1:some (H+2)≠row)(h2:v.ownBlock=none\/v.ownBlock≠row):qp W' H st v:=
 ⟨h.Pd.grown hg h1,h.own.kept hg h2⟩
structure Ur (W : World) (H : Nat) (outs : List (List Int)) (u : Value) (vals : List Value) : Prop where
 Pd:qb W (H+1) 132 #[u]
 own:W.ownsRow (H+10) 26 1 u vals.length vals
 len:vals.length=outs.length
 rows:∀k,k<outs.length->W.ownsRow (H+10) 3 1 (vals.getD k undef) (outs.getD k []).length ((outs.getD k []).map iV)/\outs.getD k []≠[]
theorem Ur.grown{W W':World}{H:Nat}{outs:List (List Int)}{u:Value}{vals:List Value}(h:Ur W H outs u vals){row:Option Nat}(hg:W.grownBy W' row)(h1:some (H+1)≠row)(h2:u.ownBlock=none\/u.ownBlock≠row)
  (h3:∀g∈vals,g.ownBlock=none\/g.ownBlock≠row):Ur W' H outs u vals:=
 ⟨h.Pd.grown hg h1,h.own.kept hg h2,h.len,λk hk=>⟨(h.rows k hk).1.kept hg (h3 _ (by rw[List.getD_eq_getElem?_getD,List.getElem?_eq_getElem (by rw[h.len];exact hk)];grind)),(h.rows k hk).2⟩⟩
def aj(G:Nat->List Nat)(jd:List (List Nat)):List (List Int):=(jd.filter (qh G)).map λc=>(c.map λx:Nat=>(x:Int)).mergeSort λx y=>decide (x<=y)
structure UO (w0 : World) (H : Nat) (G : Nat -> List Nat) (s : TS) (W : World) : Prop where
 fr:Fr w0 H W
 num:Wb (Value.int .i64) (Value.int .i64) W (H+4) (Uo 0 s.ng)
 low:∃l,Wb (Value.int .i64) (Value.int .i64) W (H+3) l/\∀x∈s.ng,l.lookup (x:Int)=some (s.low x:Int)
 on:∃l,Wb (Value.int .i64) Value.bool W (H+7) l/\∀x:Nat,(l.lookup (x:Int)).getD false=decide (x∈s.stack)
 mem:∃v u vals,qp W H s.stack v/\Ur W H (aj G s.jd) u vals/\∀g∈vals,g.ownBlock=none\/g.ownBlock≠v.ownBlock
structure qV (w0 : World) (H nb n : Nat) (rows : List (List Nat)) : Prop where
 size:H+10<=w0.heap.size
 len:rows.length=n
 low:qb w0 (H+5) 173 #[.map (some (H+3))]
 num:qb w0 (H+6) 173 #[.map (some (H+4))]
 on:qb w0 (H+8) 61 #[.map (some (H+7))]
 net:qb w0 H 129 #[.pointer (some ⟨nb,0,none⟩)]
 ng:qb w0 (H+9) 174 #[.func (.func 98) #[] #[.pointer (some ⟨H+6,0,none⟩),.pointer (some ⟨H+5,0,none⟩),.pointer (some ⟨H+2,0,none⟩),.pointer (some ⟨H+8,0,none⟩),.pointer (some ⟨H,0,none⟩),.pointer (some ⟨H+9,0,none⟩),.pointer (some ⟨H+1,0,none⟩)]]
 by_:∃bb,bb<H/\nb<H/\w0.cell? ⟨nb,4,none⟩=some (.slice (some ⟨bb,0,none⟩) n n)/\∀k,k<n->∃v,w0.cell? ⟨bb,k,none⟩=some v/\IntsIn w0 H ((rows.getD k []).map λx:Nat=>(x:Int)) v
def Sn(rows:List (List Nat))(i:Nat):List Nat:=rows.getD i []
theorem pO(l:List Int)(ao:Option Addr)(cap:Nat)(w:World)(B base:Nat)(hne:l≠[])(hlen:l.length<=10000)(hb:base<=w.heap.size)(hB:B<=w.heap.size)(hl:IntsIn w B l (.slice ao l.length cap)):
  Calls Tryz.prog 89 #[.slice ao l.length cap] w λe w'=>∃v,e=.returned v/\w'.ownsRow base 3 1 v l.length (l.map iV)/\Below w.heap.size w w'/\(∃g c,v=.slice (some ⟨g,0,none⟩) l.length c/\w.heap.size<=g):=by
 obtain⟨ao',cap',he,h1,h2,h4⟩:=hl;obtain⟨b,off,ha,hlt,hc⟩:=h4 hne;cases he
 subst ha;have oE:=List.length_pos_iff.2 hne;obtain⟨i0,Kw,yx,Un,BA⟩:=info_parts CD;have nI:(w.alloc _).ownsRow base 3 1 _ 0 []:=⟨rfl,.inr ⟨_,0,#[],rfl,hb,heap_alloc_new _ _,Nat.le_refl _,Nat.zero_le _,rfl,rfl⟩⟩
 have xY:∀j u,(l.map iV)[j]? =some u->(w.alloc (.cells #[] 3)).cell? ((⟨b,off,none⟩:Addr).add j)=some u:=by{intro j u hj;rw[List.getElem?_map]at hj;have YI:j<l.length:=by{(rcases Nat.lt_or_ge j l.length with h|h);{exact h};{rw[List.getElem?_eq_none h]at hj;cases hj}};rw[List.getElem?_eq_getElem YI]at hj;have h5:w.cell? _=some _:=hc j YI;rw[Nat.mul_one]at h5;(have agd:(⟨b,off,none⟩:Addr).add j=⟨b,off+j,none⟩:=by unfold Addr.add;split<;>simp_all);rw[agd,World.cell?_alloc_past _ _ _ (by omega),h5];exact hj}
 have hq:=λw=>Lib.run_eql_slice_nil w 26 3 (some ⟨b,off,none⟩) l.length cap 0 0 Tryz.underlying26
 have HN:=Lib.hid xY;have HO:=Lib.hid nI;clear hc h4 xY nI;go_enter Tryz.func89,Tryz.ntmps89;go_wp2_with (at_builtin;refine wpList_append_own_at _ rfl _ _ 26 rfl base 3 i0 _ 1 8 Tryz.underlying26 Kw yx Un BA rfl (by decide) _ _ _ rfl HO.out _ _ cap _ rfl (by simp) HN.out (by simp[iV,Value.oneCell']) (by omega) (by omega) (by simp;omega) ?_;intro v' w1 nT qD aqQ lF);have tm:=((Below.refl _ w).alloc (Nat.le_refl _) (.cells #[] 3)).grown qD (by simp) (λk e=>by cases e;exact Nat.le_refl _);rw[Nat.zero_add,List.nil_append]at nT;obtain⟨g,c,hv,_,_⟩:=nT.form oE;go_ret;refine⟨v',rfl,nT,tm,g,c,hv,?_⟩;rw[hv]at lF;rcases lF with e|e
 {have:g=w.heap.size:=Option.some.inj e;omega}
 {have:g=(w.alloc (.cells #[] 3)).heap.size:=Option.some.inj e;rw[World.size_alloc]at this;omega}
end Go.Proofs.YtdipkbobalnilaaGreatDoor
namespace Go.Proofs
open Go.Shelf
def Tryz.tA:Go.Shelf.Ren:=⟨fun|6=>101|15=>117|14=>133|28=>150|29=>151|20=>170|21=>171|22=>172|23=>173|24=>174|25=>175|26=>176|27=>177|46=>195|47=>183|48=>184|49=>196|50=>197|57=>205|n=>n,fun|22=>132|24=>26|25=>185|3=>3|39=>200|0=>0|53=>231|55=>233|4=>4|46=>225|45=>224|50=>90|5=>5|9=>9|66=>258|70=>262|76=>273|77=>234|n=>n,fun|n=>n⟩
theorem Tryz.uA:Go.Proofs.SlLaysF.n6 Tryz.prog Tryz.tA:={
 mixed:=by kernel_rfl
 f6:=⟨Tryz.f101.name,by decide,Tryz.func101.trans (congrArg some (by kernel_rfl))⟩
 f14:=⟨Tryz.f133.name,by decide,Tryz.func133.trans (congrArg some (by kernel_rfl))⟩
 f15:=Tryz.func117.trans (congrArg some (by kernel_rfl))
 f20:=⟨Tryz.f170.name,by decide,Tryz.func170.trans (congrArg some (by kernel_rfl))⟩
 f21:=⟨Tryz.f171.name,by decide,Tryz.func171.trans (congrArg some (by kernel_rfl))⟩
 f22:=⟨Tryz.f172.name,by decide,Tryz.func172.trans (congrArg some (by kernel_rfl))⟩
 f23:=⟨Tryz.f173.name,by decide,Tryz.func173.trans (congrArg some (by kernel_rfl))⟩
 f24:=⟨Tryz.f174.name,by decide,Tryz.func174.trans (congrArg some (by kernel_rfl))⟩
 f25:=⟨Tryz.f175.name,by decide,Tryz.func175.trans (congrArg some (by kernel_rfl))⟩
 f26:=⟨Tryz.f176.name,by decide,Tryz.func176.trans (congrArg some (by kernel_rfl))⟩
 f27:=⟨Tryz.f177.name,by decide,Tryz.func177.trans (congrArg some (by kernel_rfl))⟩
 f28:=Tryz.func150.trans (congrArg some (by kernel_rfl))
 f29:=Tryz.func151.trans (congrArg some (by kernel_rfl))
 f46:=⟨Tryz.f195.name,by decide,Tryz.func195.trans (congrArg some (by kernel_rfl))⟩
 f47:=Tryz.func183.trans (congrArg some (by kernel_rfl))
 f48:=Tryz.func184.trans (congrArg some (by kernel_rfl))
 f49:=⟨Tryz.f196.name,by decide,Tryz.func196.trans (congrArg some (by kernel_rfl))⟩
 f50:=⟨Tryz.f197.name,by decide,Tryz.func197.trans (congrArg some (by kernel_rfl))⟩
 f57:=⟨Tryz.f205.name,by decide,Tryz.func205.trans (congrArg some (by kernel_rfl))⟩
 t0:=Tryz.underlying0
 a0:=Tryz.isAgg0
 z0:=Tryz.sizeOf0
 v0:=Tryz.zeroValue0
 t3:=Tryz.underlying3
 a3:=Tryz.isAgg3
 z3:=Tryz.sizeOf3
 v3:=Tryz.zeroValue3
 t4:=Tryz.underlying4
 a4:=Tryz.isAgg4
 z4:=Tryz.sizeOf4
 v4:=Tryz.zeroValue4
 t5:=Tryz.underlying5
 a5:=Tryz.isAgg5
 z5:=Tryz.sizeOf5
 v5:=Tryz.zeroValue5
 t9:=Tryz.underlying9
 a9:=Tryz.isAgg9
 z9:=Tryz.sizeOf9
 v9:=Tryz.zeroValue9
 t22:=Tryz.underlying132
 a22:=Tryz.isAgg132
 z22:=Tryz.sizeOf132
 v22:=Tryz.zeroValue132
 a24:=Tryz.isAgg26
 z24:=Tryz.sizeOf26
 t25:=Tryz.underlying185
 a25:=Tryz.isAgg185
 z25:=Tryz.sizeOf185
 v25:=Tryz.zeroValue185
 t39:=Tryz.underlying200
 a39:=Tryz.isAgg200
 z39:=Tryz.sizeOf200
 v39:=Tryz.zeroValue200
 t45:=Tryz.underlying224
 a45:=Tryz.isAgg224
 z45:=Tryz.sizeOf224
 v45:=Tryz.zeroValue224
 t46:=Tryz.underlying225
 a46:=Tryz.isAgg225
 z46:=Tryz.sizeOf225
 v46:=Tryz.zeroValue225
 t50:=Tryz.underlying90
 a50:=Tryz.isAgg90
 z50:=Tryz.sizeOf90
 v50:=Tryz.zeroValue90
 t53:=Tryz.underlying231
 a53:=Tryz.isAgg231
 z53:=Tryz.sizeOf231
 v53:=Tryz.zeroValue231
 t55:=Tryz.underlying233
 a55:=Tryz.isAgg233
 z55:=Tryz.sizeOf233
 v55:=Tryz.zeroValue233
 t66:=Tryz.underlying258
 a66:=Tryz.isAgg258
 z66:=Tryz.sizeOf258
 v66:=Tryz.zeroValue258
 t70:=Tryz.underlying262
 a70:=Tryz.isAgg262
 z70:=Tryz.sizeOf262
 v70:=Tryz.zeroValue262
 t76:=Tryz.underlying273
 a76:=Tryz.isAgg273
 z76:=Tryz.sizeOf273
 v76:=Tryz.zeroValue273
 t77:=Tryz.underlying234
 a77:=Tryz.isAgg234
 z77:=Tryz.sizeOf234
 v77:=Tryz.zeroValue234}
open Go.RowKit Go.Lib Go.Sort in
open Go.RowKit Go.Lib Go.Sort in
theorem Tryz.slices_SortFunc{α:Type}[Inhabited α](enc:α->Value)(h1:OneCell enc)(cf:α->α->Int)(hO:SWO (ltOf cf))(g:Nat)(cb:Array Value)(Pd off cap:Nat)(d:Array α)(w:World)(eg:∀args w,(callFunc g args).run Tryz.prog w=.ok (.enter g args) w)(afT:CmpLays1 Tryz.prog g cb enc cf Pd off d.size w)(hH:Holds enc w Pd off d)(hblk:Pd<w.heap.size)(hsz:d.size<4611686018427387904):
  Calls Tryz.prog 101 #[.slice (some ⟨Pd,off,none⟩) d.size cap,.func (.func g) #[] cb] w λe w'=>e=.returned (.tuple #[])/\∃d' n os,PermIn 0 d.size d d'/\SortedIn (ltOf cf) 0 d.size d'/\w'=sortWorld enc w Pd off n d' os:=Any.slices_SortFunc Tryz.uA enc h1 cf hO g cb Pd off cap d w eg afT hH hblk hsz
end Go.Proofs
namespace Go.Proofs.YtdipkbobalnilaaGreatDoor
open Go.RowKit Go.Sort Tj
theorem gm(w:World)(os:Array Obj):w.grownBy (grow w os) none:=
 ⟨rfl,rfl,rfl,by simp,λk hk _=>by grind [grow]⟩
theorem nl{α:Type}[Inhabited α](enc:α->Value)(w:World)(q g:Nat)(d:Array α):w.grownBy (putRow enc (Sort.ahead w q) g 0 d) (some g):=
 ⟨rfl,rfl,rfl,by simp_all,λk _ hne=>by
  grind [putRow,mapBlock,Sort.ahead]⟩
theorem qO(l:List Int)(g cc base:Nat)(w:World)(hsz:l.length<=100000)(h:w.ownsRow base 3 1 (.slice (some ⟨g,0,none⟩) l.length cc) l.length (l.map iV)):
  Calls Tryz.prog 100 #[.slice (some ⟨g,0,none⟩) l.length cc] w λe w'=>e=.returned (.tuple #[])/\
   w'.ownsRow base 3 1 (.slice (some ⟨g,0,none⟩) l.length cc) l.length ((l.mergeSort λx y=>decide (x<=y)).map iV)/\w.grownBy w' (some g):=by
 obtain⟨g',cap',e,hb,hlt,h1,h2,h3,hH⟩:=Lib.holds_of_ownsRow (enc:=Value.int _) h (by simp);cases e
 refine(Tryz.slices_Sort_int g 0 cc l w hH hlt (by omega)).mono ?_;rintro e w' ⟨rfl,n,os,rfl⟩;have GF:(l.mergeSort λx y=>decide (x<=y)).length=l.length:=List.length_mergeSort _;have h4:=Lib.ownsRow_putRow (enc:=Value.int _) (q:=n) h GF (Nat.le_refl _);rw[List.take_of_length_le (by omega)]at h4;refine⟨rfl,h4.kept (gm _ os) (.inr (by simp[Value.ownBlock])),?_⟩;have g1:=nl (Value.int .i64) w n g (l.mergeSort λx y=>decide (x<=y)).toArray;have g2:=gm (putRow (Value.int .i64) (Sort.ahead w n) g 0 (l.mergeSort λx y=>decide (x<=y)).toArray) os;exact⟨g2.os.trans g1.os,g2.tape.trans g1.tape,g2.output.trans g1.output,Nat.le_trans g1.size g2.size,λk hk hne=>(g2.block k (Nat.lt_of_lt_of_le hk g1.size) (by simp)).trans (g1.block k hk hne)⟩
open Go.RowKit Tj
theorem boxes{w0 W:World}{H nb n:Nat}{rows:List (List Nat)}(e:qV w0 H nb n rows)(f:Fr w0 H W):
  W.cell? ⟨H+6,0,none⟩=some (.map (some (H+4)))/\W.cell? ⟨H+5,0,none⟩=some (.map (some (H+3)))/\W.cell? ⟨H+8,0,none⟩=some (.map (some (H+7)))/\W.cell? ⟨H,0,none⟩=some (.pointer (some ⟨nb,0,none⟩))/\
  W.cell? ⟨H+9,0,none⟩=some (.func (.func 98) #[] #[.pointer (some ⟨H+6,0,none⟩),.pointer (some ⟨H+5,0,none⟩),.pointer (some ⟨H+2,0,none⟩),.pointer (some ⟨H+8,0,none⟩),.pointer (some ⟨H,0,none⟩),.pointer (some ⟨H+9,0,none⟩),.pointer (some ⟨H+1,0,none⟩)]):=
 ⟨(f.Pd e.num (by omega)).cell 0,(f.Pd e.low (by omega)).cell 0,(f.Pd e.on (by omega)).cell 0,(f.Pd e.net (by omega)).cell 0,(f.Pd e.ng (by omega)).cell 0⟩
theorem vj.key:KeyLaw (Value.int .i64) Tryz.prog 3:=tE Tryz.underlying3
theorem oT{w0 W W1 W2 w1 w3:World}{H:Nat}{G:Nat->List Nat}{s:TS}{i gg cap:Nat}{v u:Value}{vals:List Value}{lL:List (Int×Int)}{lO:List (Int×Bool)}(hi:i∉s.ng)(akx:∀x∈s.stack,x∈s.ng)
  (f:Fr w0 H W) (CJ:Wb (Value.int .i64) (Value.int .i64) W1 (H+4) (ins (Uo 0 s.ng) (i:Int) (s.ng.length:Int))) (yY:Bq (H+4) W W1)
  (_hl:Wb (Value.int .i64) (Value.int .i64) W (H+3) lL) (XT:∀x∈s.ng,lL.lookup (x:Int)=some (s.low x:Int)) (IL:Wb (Value.int .i64) (Value.int .i64) W2 (H+3) (ins lL (i:Int) (s.ng.length:Int))) (U1:Bq (H+3) W1 W2)
  (_ho:Wb (Value.int .i64) Value.bool W (H+7) lO) (QT:∀x:Nat,(lO.lookup (x:Int)).getD false=decide (x∈s.stack))
  (hs:qp W H s.stack v) (rU:Ur W H (aj G s.jd) u vals) (Ju:∀g∈vals,g.ownBlock=none\/g.ownBlock≠v.ownBlock)
  (hg:(W2.alloc (.cells #[.int .i64 (i:Int)] 3)).drew.grownBy w1 v.ownBlock) (vI:w1.ownsRow (H+10) 3 1 (.slice (some ⟨gg,0,none⟩) (s.stack.length+1) cap) (s.stack.length+1) (s.stack.map nV++[.int .i64 (i:Int)]))
  (lF:v.ownBlock=some gg\/gg=W2.heap.size+1)
  (ho3:Wb (Value.int .i64) Value.bool w3 (H+7) (ins lO (i:Int) true)) (JO:Bq (H+7) (w1.setCell ⟨H+2,0,none⟩ (.slice (some ⟨gg,0,none⟩) (s.stack.length+1) cap)) w3):UO w0 H G (s.push i) w3:=by
 have g1:=Kg yY;have g2:=Kg U1;have f2:=(f.grown g1 (λb e=>by grind)).grown g2 (λb e=>by grind);have ga:=World.grownBy_alloc W2 (.cells #[.int .i64 i] 3) none;have s2:=(hs.grown g1 (by simp) (pe hs.own (by omega))).grown g2 (by simp) (pe hs.own (by omega))
 have fv:∀b,v.ownBlock=some b->H+10<=b:=λb e=>by{(rcases hs.own.2 with⟨rfl,_⟩|⟨g,c,Aq,rfl,aL,_⟩);all_goals grind [Value.ownBlock]}
 have gs:w1.grownBy (w1.setCell _ (.slice (some ⟨gg,0,none⟩) (s.stack.length+1) cap)) (some (H+2)):=grownBy_setCell' _ _ _;have g3:=Kg JO
 have b_:=
  (vI.kept gs (pe vI (by omega))).kept g3 (pe vI (by omega))
 have c_:W2.grownBy ((W2.alloc _).drew) none:=⟨ga.os,ga.tape,ga.output,ga.size,ga.block⟩;have agf:=(((f2.grown c_ (λb e=>by cases e)).grown hg (λb e=>by grind)).grown gs (λb e=>by grind)).grown g3 (λb e=>by grind);have hblk:=(s2.Pd.grown c_ (by simp)).grown hg (λe=>by grind);refine⟨agf,?_,?_,?_,?_⟩
 ·have h:=((((CJ.grown g2 (by simp)).grown c_ (by simp)).grown hg (λe=>by grind)).grown gs (by simp)).grown g3 (by simp)
  have e:ins (Uo 0 s.ng) i s.ng.length=Uo 0 (s.push i).ng:=by
   rw[Il _ _ _ (by grind [Ak])]
   show _=Uo 0 (s.ng++[i])
   grind [pD]
  grind
 {refine⟨_,(((IL.grown c_ (by simp)).grown hg (λe=>by grind)).grown gs (by simp)).grown g3 (by simp),λx hx=>?_⟩;show _=some ((Lw s.low i s.ng.length x):Int);by_cases h:x=i;{subst h;rw[Ve,Qm]};{rw[ef _ _ (by omega),Rm _ _ h];(rcases List.mem_append.1 hx with hx|hx);all_goals grind}}
 ·refine⟨_,ho3,λx=>?_⟩
  show _=decide (x∈s.stack++[i])
  by_cases h:x=i
  ·grind [Ve]
  {rw[ef _ _ (by omega),QT];simp[h]}
 ·have hub:=wi rU.own hs.own (by decide)
  have far:∀ {b:Nat},b<H+10->∀g∈vals,g.ownBlock=none\/g.ownBlock≠some b:=by
   intro b hb g Y4;obtain⟨k,hk,rfl⟩:=List.getElem_of_mem Y4;have h:=(rU.rows k (by rw[<-rU.len];exact hk)).1
   grind [pe]
  have o3:=(((((rU.grown g1 (by simp) (pe rU.own (by omega)) (far (by omega))).grown g2 (by simp) (pe rU.own (by omega)) (far (by omega))).grown c_ (by simp) (by grind) (λg _=>by grind)).grown hg (λe=>by grind) hub Ju).grown gs (by simp) (pe rU.own (by omega)) (far (by omega))).grown g3 (by simp) (pe rU.own (by omega)) (far (by omega));refine⟨.slice (some ⟨gg,0,none⟩) (s.stack.length+1) cap,u,vals,⟨?_,?_⟩,o3,?_⟩
  {have h:=hblk.set 0 (.slice (some ⟨gg,0,none⟩) (s.stack.length+1) cap);exact qb.grown h g3 (by simp)}
  {show w3.ownsRow _ 3 1 _ (s.stack++[i]).length ((s.stack++[i]).map nV);rw[List.length_append,List.map_append];exact b_}
  {intro g Y4;(rcases lF with lF|lF);{have h:=Ju g Y4;rw[lF]at h;exact h};{obtain⟨k,hk,rfl⟩:=List.getElem_of_mem Y4;have h:=(rU.rows k (by rw[<-rU.len];exact hk)).1;rw[List.getD_eq_getElem?_getD,List.getElem?_eq_getElem hk]at h;(rcases h.2 with⟨e,_⟩|⟨g',c,Aq,e,_,aL,_⟩);{left;simp at e;rw[e];rfl};{right;simp only[Option.getD_some]at e;rw[e];intro e2;have:g'=gg:=Option.some.inj e2;have hlt:=(Array.getElem?_eq_some_iff.1 aL).1;have:=g1.size;have:=g2.size;omega}}}
abbrev Dz(w0:World)(H n:Nat)(rows:List (List Nat))(N:Nat):Prop:=
 ∀(i:Nat) (P:Nat->Prop) (s:TS) (W:World),n<=s.ng.length+N->i<n->J5 (Sn rows) P i s->(∀x∈s.ng,x<n)->UO w0 H (Sn rows) s W->
  Calls Tryz.prog 98 #[.int .i64 i,.pointer (some ⟨H+6,0,none⟩),.pointer (some ⟨H+5,0,none⟩),.pointer (some ⟨H+2,0,none⟩),.pointer (some ⟨H+8,0,none⟩),.pointer (some ⟨H,0,none⟩),.pointer (some ⟨H+9,0,none⟩),.pointer (some ⟨H+1,0,none⟩)] W λe W'=>e=.returned (.tuple #[])/\∃s',xU (Sn rows) P i s s'/\(∀x∈s'.ng,x<n)/\UO w0 H (Sn rows) s' W'
theorem cF{s:TS}{n:Nat}(hn:s.ng.Nodup)(h:∀x∈s.ng,x<n):s.ng.length<=n:=by
 have:=List.Nodup.length_le_of_subset hn (λx hx=>List.mem_range.2 (h x hx))
 grind
theorem dF{W:World}{H:Nat}{st:List Nat}{v:Value}(h:qp W H st v):∀b,v.ownBlock=some b->H+10<=b:=λb e=>by
 rcases h.own.2 with⟨rfl,_⟩|⟨g,c,Aq,rfl,aL,_⟩
 all_goals grind [Value.ownBlock]
theorem sk1{W w1:World}{H:Nat}{st:List Nat}{v:Value}{o:Obj}(h:qp W H st v)(hg:(W.alloc o).drew.grownBy w1 v.ownBlock):qb w1 (H+2) 26 #[v]:=
 qb.grown (W:=(W.alloc o).drew) (qb.alloc h.Pd o) hg (λe=>by have:=dF h _ e.symm;omega)
theorem d_{W w1:World}{H:Nat}{st:List Nat}{v:Value}{o:Obj}(h:qp W H st v)(hg:(W.alloc o).drew.grownBy w1 v.ownBlock){b i:Nat}(hb:b<H+10)(hs:b<W.heap.size):w1.cell? ⟨b,i,none⟩=W.cell? ⟨b,i,none⟩:=
 World.cell?_of_block ((hg.block b (by show b<(W.alloc o).heap.size;rw[World.size_alloc];omega) (λe=>by have:=dF h _ e.symm;omega)).trans (Below.heap_alloc W o b hs))
theorem on1{W w1:World}{H:Nat}{st:List Nat}{v:Value}{o:Obj}{l:List (Int×Bool)}(h:qp W H st v)(ho:Wb (Value.int .i64) Value.bool W (H+7) l)(hg:(W.alloc o).drew.grownBy w1 v.ownBlock)(x:Value):
  Wb (Value.int .i64) Value.bool (w1.setCell ⟨H+2,0,none⟩ x) (H+7) l:=by
 have hlt:=ho.lt;have h1:Wb _ _ (W.alloc o).drew _ l:=ho.alloc o;exact(h1.grown hg (λe=>by have:=dF h _ e.symm;omega)).grown (grownBy_setCell' w1 _ x) (by simp)
theorem AW{W:World}{b:Nat}{l:List (Int×Bool)}{st:List Nat}(h:Wb (Value.int .i64) Value.bool W b l)(hl:∀x:Nat,(l.lookup (x:Int)).getD false=decide (x∈st))(x:Nat):
  (Instr.lookup 61 (.map (some b)) (.int .i64 (x:Int)) false).run Tryz.prog W=.ok (.bool (decide (x∈st))) W:=by
 have h1:=zk vj.key Tryz.underlying61 Om h x
 grind
theorem zq{W:World}{b:Nat}{l:List (Int×Int)}(h:Wb (Value.int .i64) (Value.int .i64) W b l){x:Nat}{y:Int}(hl:l.lookup (x:Int)=some y):
  (Instr.lookup 173 (.map (some b)) (.int .i64 (x:Int)) false).run Tryz.prog W=.ok (.int .i64 y) W:=by
 have h1:=zk vj.key Tryz.underlying173 Ip h x
 grind
theorem wI{W:World}{b:Nat}{ng:List Nat}(h:Wb (Value.int .i64) (Value.int .i64) W b (Uo 0 ng)){x:Nat}(hx:x∈ng):
  (Instr.lookup 173 (.map (some b)) (.int .i64 (x:Int)) false).run Tryz.prog W=.ok (.int .i64 (ng.idxOf x:Nat)) W:=
 zq h (by grind [Ak])
theorem rD{w0 W W':World}{H:Nat}{G:Nat->List Nat}{s:TS}{lL:List (Int×Int)}{i v:Nat}(hst:UO w0 H G s W)(hi:i∈s.ng)(_hl:Wb (Value.int .i64) (Value.int .i64) W (H+3) lL)(XT:∀x∈s.ng,lL.lookup (x:Int)=some (s.low x:Int))
  (sU:Wb (Value.int .i64) (Value.int .i64) W' (H+3) (ins lL (i:Int) ((min (s.low i) v:Nat):Int))) (hu:Bq (H+3) W W'):UO w0 H G (s.lower i v) W':=by
 obtain⟨UG,vA,_,⟨lO,rO,BB⟩,vv,u,vals,ol,Rj,Ju⟩:=hst;have g:=Kg hu;refine⟨UG.grown g (λb e=>by grind),vA.grown g (by simp),⟨_,sU,λx hx=>?_⟩,⟨lO,rO.grown g (by simp),BB⟩,vv,u,vals,ol.grown g (by simp) (pe ol.own (by omega)),Rj.grown g (by simp) (pe Rj.own (by omega)) ?_,Ju⟩
 {show _=some ((Lw s.low i (min (s.low i) v) x):Int);by_cases h:x=i;{subst h;rw[Ve,Qm]};{rw[ef _ _ (by omega),Rm _ _ h];exact XT x hx}}
 ·intro g Y4
  obtain⟨k,hk,rfl⟩:=List.getElem_of_mem Y4;have h:=(Rj.rows k (by rw[<-Rj.len];exact hk)).1
  grind [pe]
theorem BW{W:World}{base g cap m:Nat}{l:List Nat}{k:Nat}(h:W.ownsRow base 3 1 (.slice (some ⟨g,0,none⟩) m cap) m (l.map nV))(hk:k<=l.length):
  W.ownsRow base 3 1 (.slice (some ⟨g,0,none⟩) k cap) k ((l.take k).map nV):=by
 have hl:=h.1;rw[List.length_map]at hl;rcases h.2 with⟨e,_⟩|⟨g',cap',Aq,e,h1,h2,h3,h4,h5,h6⟩
 {cases e}
 ·cases e
  refine⟨by grind,.inr ⟨g,cap,Aq,rfl,h1,h2,by omega,h4,h5,?_⟩⟩
  grind [List.map_take]
structure pT (w0 : World) (H : Nat) (G : Nat -> List Nat) (s sx : TS) (c : List Nat) (gv : Value) (W : World) : Prop where
 fr:Fr w0 H W
 num:Wb (Value.int .i64) (Value.int .i64) W (H+4) (Uo 0 sx.ng)
 low:∃l,Wb (Value.int .i64) (Value.int .i64) W (H+3) l/\∀x∈sx.ng,l.lookup (x:Int)=some (sx.low x:Int)
 on:∃l,Wb (Value.int .i64) Value.bool W (H+7) l/\∀x:Nat,(l.lookup (x:Int)).getD false=decide (x∈s.stack)
 mem:∃v u vals,qp W H s.stack v/\Ur W H (aj G sx.jd) u vals/\(∀g∈vals,g.ownBlock=none\/g.ownBlock≠v.ownBlock)/\
  W.ownsRow (H+10) 3 1 gv c.length (c.map λx:Nat=>iV x)/\gv.ownBlock≠v.ownBlock/\∀g∈vals,g.ownBlock=none\/g.ownBlock≠gv.ownBlock
theorem xI{W:World}{H:Nat}{outs:List (List Int)}{u:Value}{vals:List Value}(h:Ur W H outs u vals){g:Value}(hg:g∈vals):∃l:List Int,W.ownsRow (H+10) 3 1 g l.length (l.map iV):=by
 obtain⟨k,hk,rfl⟩:=List.getElem_of_mem hg;have h:=(h.rows k (by rw[<-h.len];exact hk)).1
 grind
theorem qT{W:World}{base e size:Nat}{v:Value}{n:Nat}{xs:List Value}(h:W.ownsRow base e size v n xs){b:Nat}(hb:v.ownBlock=some b):b<W.heap.size:=by
 rcases h.2 with⟨rfl,_⟩|⟨g,cap,Aq,rfl,_,hg,_⟩
 all_goals grind [Value.ownBlock]
theorem V1{w0 W w5 w7:World}{H:Nat}{G:Nat->List Nat}{s sx:TS}{c:List Nat}{g cap:Nat}{u:Value}{vals:List Value}{gv:Value}(hst:UO w0 H G sx W)(UW:sx.stack=s.stack++c)(oR:sx.stack.Nodup)
  (ol:qp W H sx.stack (.slice (some ⟨g,0,none⟩) sx.stack.length cap)) (Rj:Ur W H (aj G sx.jd) u vals) (Ju:∀x∈vals,x.ownBlock=none\/x.ownBlock≠some g)
  (nF:Below W.heap.size W w5) (uQ:w5.ownsRow (H+10) 3 1 gv c.length (c.map λx:Nat=>iV x)) (YP:∃gg cc,gv=.slice (some ⟨gg,0,none⟩) c.length cc/\W.heap.size<=gg)
  (h7:(w5.setCell ⟨H+2,0,none⟩ (.slice (some ⟨g,0,none⟩) s.stack.length cap)).grownBy w7 (some (H+7)))
  (LU:∃l,Wb (Value.int .i64) Value.bool w7 (H+7) l/\∀x:Nat,(l.lookup (x:Int)).getD false=(decide (x∈sx.stack)&& !decide (x∈c))):pT w0 H G s sx c gv w7:=by
 obtain⟨UG,vA,⟨lL,Mm,Uk⟩,_,_⟩:=hst;have g5:=jg nF;have gs:w5.grownBy (w5.setCell _ (.slice (some ⟨g,0,none⟩) s.stack.length cap)) (some (H+2)):=grownBy_setCell' _ _ _;obtain⟨gg,cc,rfl,e_⟩:=YP;have PI:=qT ol.own (b:=g) rfl;have s5:=ol.own.kept g5 (by grind)
 have s7:w7.ownsRow (H+10) 3 1 (.slice (some ⟨g,0,none⟩) s.stack.length cap) s.stack.length (s.stack.map nV):=by{have h:=BW s5 (k:=s.stack.length) (by grind);rw[UW,List.take_left]at h;exact(h.kept gs (pe h (by omega))).kept h7 (pe h (by omega))}
 have k5:=ol.Pd.grown g5 (by simp);have sD:∀x:Value,x.ownBlock=none\/x.ownBlock≠none:=λx=>by grind
 have far:∀ {b:Nat},b<H+10->∀x∈vals,x.ownBlock=none\/x.ownBlock≠some b:=λhb x hx=>by{obtain⟨l,hl⟩:=xI Rj hx;exact pe hl hb}
 have o7:=((Rj.grown g5 (by simp) (sD _) (λx _=>sD x)).grown gs (by simp) (pe Rj.own (by omega)) (far (by omega))).grown h7 (by simp) (pe Rj.own (by omega)) (far (by omega));have kL:=(uQ.kept gs (pe uQ (by omega))).kept h7 (pe uQ (by omega))
 refine⟨((UG.grown g5 (λb e=>by cases e)).grown gs (λb e=>by grind)).grown h7 (λb e=>by grind),((vA.grown g5 (by simp)).grown gs (by simp)).grown h7 (by simp),
  ⟨lL,((Mm.grown g5 (by simp)).grown gs (by simp)).grown h7 (by simp),Uk⟩,?_,_,u,vals,⟨?_,s7⟩,o7,Ju,kL,?_,?_⟩
 {obtain⟨l,h1,h2⟩:=LU;refine⟨l,h1,λx=>?_⟩;by_cases hx:x∈s.stack;all_goals grind}
 ·have h:=k5.set 0 (.slice (some ⟨g,0,none⟩) s.stack.length cap)
  grind [qb.grown]
 ·grind [Value.ownBlock]
 ·intro x hx
  obtain⟨l,hl⟩:=xI Rj hx;cases hb:x.ownBlock with
  | none=>grind
  | some b=>
   right
   have:=qT hl hb
   grind [Value.ownBlock]
theorem Hw(G:Nat->List Nat)(jd:List (List Nat))(c:List Nat):aj G (jd++[c])=aj G jd++(if qh G c then[(c.map λx:Nat=>(x:Int)).mergeSort λx y=>decide (x<=y)]else[]):=by
 grind [aj]
theorem sO{w0:World}{H:Nat}{G:Nat->List Nat}{s sx:TS}{c:List Nat}{gv:Value}{W:World}(h:pT w0 H G s sx c gv W)(hn:qh G c=false):UO w0 H G (sx.pop s.stack c) W:=by
 obtain⟨h1,h2,h3,h4,v,u,vals,h5,h6,h7,_⟩:=h;refine⟨h1,h2,h3,h4,v,u,vals,h5,?_,h7⟩
 show Ur W H (aj G (sx.jd++[c])) u vals
 grind [Hw]
theorem rT{w0 w7 w8 w9:World}{H:Nat}{G:Nat->List Nat}{s sx:TS}{c:List Nat}{gv v u:Value}{vals:List Value}{gu cu:Nat}(hn:qh G c=true)
  (UG:Fr w0 H w7) (vA:Wb (Value.int .i64) (Value.int .i64) w7 (H+4) (Uo 0 sx.ng)) (Mm:∃l,Wb (Value.int .i64) (Value.int .i64) w7 (H+3) l/\∀x∈sx.ng,l.lookup (x:Int)=some (sx.low x:Int))
  (rO:∃l,Wb (Value.int .i64) Value.bool w7 (H+7) l/\∀x:Nat,(l.lookup (x:Int)).getD false=decide (x∈s.stack))
  (ol:qp w7 H s.stack v) (Rj:Ur w7 H (aj G sx.jd) u vals) (Ju:∀g∈vals,g.ownBlock=none\/g.ownBlock≠v.ownBlock)
  (uQ:w7.ownsRow (H+10) 3 1 gv c.length (c.map λx:Nat=>iV x)) (f_:gv.ownBlock≠v.ownBlock) (g_:∀g∈vals,g.ownBlock=none\/g.ownBlock≠gv.ownBlock)
  (oL:w7.grownBy w8 gv.ownBlock) (tT:w8.ownsRow (H+10) 3 1 gv c.length (((c.map λx:Nat=>(x:Int)).mergeSort λx y=>decide (x<=y)).map iV))
  (JV:(w8.alloc (.cells #[gv] 26)).grownBy w9 u.ownBlock) (dx:w9.ownsRow (H+10) 26 1 (.slice (some ⟨gu,0,none⟩) (vals.length+1) cu) (vals.length+1) (vals++[gv])):
  UO w0 H G (sx.pop s.stack c) (w9.setCell ⟨H+1,0,none⟩ (.slice (some ⟨gu,0,none⟩) (vals.length+1) cu)):=by
 have ga:=World.grownBy_alloc w8 (.cells #[gv] 26) none;have gs:w9.grownBy (w9.setCell _ (.slice (some ⟨gu,0,none⟩) (vals.length+1) cu)) (some (H+1)):=grownBy_setCell' _ _ _
 have ob:∀ {W:World} {e n:Nat} {x:Value} {xs:List Value},W.ownsRow (H+10) e 1 x n xs->∀b,x.ownBlock=some b->H+10<=b:=by{intro W e n x xs h b hb;(rcases h.2 with⟨rfl,_⟩|⟨g,cc,Aq,rfl,hg,_⟩);all_goals grind [Value.ownBlock]}
 have og:=ob uQ;have ou:=ob Rj.own;have sD:∀x:Value,x.ownBlock=none\/x.ownBlock≠none:=λx=>by grind
 have lt8:∀b,b<H+10->some b≠gv.ownBlock:=λb hb e=>by grind
 have lt9:∀b,b<H+10->some b≠u.ownBlock:=λb hb e=>by grind
 have MAP:∀ {κ ν:Type} {ek:κ->Value} {ev:ν->Value} {b:Nat} {l:List (κ×ν)},b<H+10->b≠H+1->Wb ek ev w7 b l->Wb ek ev (w9.setCell ⟨H+1,0,none⟩ (.slice (some ⟨gu,0,none⟩) (vals.length+1) cu)) b l:=λhb hne h=>(((h.grown oL (lt8 _ hb)).grown ga (by simp)).grown JV (lt9 _ hb)).grown gs (by simp;omega)
 obtain⟨lL,dU,IL⟩:=Mm;obtain⟨lO,ho1,ho2⟩:=rO;have hvu:=wi ol.own Rj.own (by decide);have hgu:=wi uQ Rj.own (by decide)
 refine⟨(((UG.grown oL (λb e=>by grind)).grown ga (λb e=>by cases e)).grown JV (λb e=>by grind)).grown gs (λb e=>by grind),MAP (by omega) (by omega) vA,⟨lL,MAP (by omega) (by omega) dU,IL⟩,⟨lO,MAP (by omega) (by omega) ho1,ho2⟩,
  v,.slice (some ⟨gu,0,none⟩) (vals.length+1) cu,vals++[gv],?_,⟨?_,?_,?_,?_⟩,?_⟩
 {have hvg:v.ownBlock=none\/v.ownBlock≠gv.ownBlock:=.inr (Ne.symm f_);exact(((ol.grown oL (lt8 _ (by omega)) hvg).grown ga (by simp) (sD _)).grown JV (lt9 _ (by omega)) hvu).grown gs (by simp) (pe ol.own (by omega))}
 {have h:=((Rj.Pd.grown oL (lt8 _ (by omega))).grown ga (by simp)).grown JV (lt9 _ (by omega));exact h.set 0 _}
 {rw[List.length_append];exact dx.kept gs (pe dx (by omega))}
 ·show(vals++[gv]).length=(aj G (sx.jd++[c])).length
  rw[Hw,hn,if_pos rfl,List.length_append,List.length_append,Rj.len];rfl
 ·intro k hk
  change k<(aj G (sx.jd++[c])).length at hk
  show(w9.setCell _ _).ownsRow _ 3 1 _ ((aj G (sx.jd++[c])).getD k []).length (((aj G (sx.jd++[c])).getD k []).map iV)/\(aj G (sx.jd++[c])).getD k []≠[]
  rw[Hw,hn,if_pos rfl]at hk⊢;rw[List.length_append,List.length_singleton]at hk;rcases Nat.lt_or_ge k (aj G sx.jd).length with hlt|DX
  ·have e1:(aj G sx.jd++[(c.map λx:Nat=>(x:Int)).mergeSort λx y=>decide (x<=y)]).getD k []=(aj G sx.jd).getD k []:=by
    grind
   have e2:(vals++[gv]).getD k undef=vals.getD k undef:=by{rw[List.getD_eq_getElem?_getD,List.getD_eq_getElem?_getD,List.getElem?_append_left (by rw[Rj.len];exact hlt)]}
   rw[e1,e2];obtain⟨r1,r2⟩:=Rj.rows k hlt;have hm:vals.getD k undef∈vals:=by rw[List.getD_eq_getElem?_getD,List.getElem?_eq_getElem (by rw[Rj.len];exact hlt)];grind
   exact⟨(((r1.kept oL (g_ _ hm)).kept ga (sD _)).kept JV (wi r1 Rj.own (by decide))).kept gs (pe r1 (by omega)),r2⟩
  {(have hk':k=(aj G sx.jd).length:=by omega);subst hk';(have e1:(aj G sx.jd++[(c.map λx:Nat=>(x:Int)).mergeSort λx y=>decide (x<=y)]).getD (aj G sx.jd).length []=(c.map λx:Nat=>(x:Int)).mergeSort λx y=>decide (x<=y):=by{rw[List.getD_eq_getElem?_getD,List.getElem?_append_right (by omega)];simp});have e2:(vals++[gv]).getD (aj G sx.jd).length undef=gv:=by{rw[List.getD_eq_getElem?_getD, <-Rj.len,List.getElem?_append_right (by omega)];simp};(have hlen:((c.map λx:Nat=>(x:Int)).mergeSort λx y=>decide (x<=y)).length=c.length:=by rw[List.length_mergeSort,List.length_map]);rw[e1,e2];rw[hlen];refine⟨((tT.kept ga (sD _)).kept JV hgu).kept gs (pe tT (by omega)),λe=>?_⟩;have h0:=congrArg List.length e;rw[hlen]at h0;cases c with| nil=>cases hn| cons a l=>cases h0}
 {intro g hg;(rcases List.mem_append.1 hg with h|h);{exact Ju g h};{simp at h;subst h;exact .inr f_}}
theorem tO(a b:List Nat)(i:Nat)(h:i∉a):∀(k:Int),idxFrom (λx=>(i:Int)==x) ((a++i::b).map λx:Nat=>(x:Int)) k=k+a.length:=by
 induction a with
 | nil=>intro k;simp[idxFrom]
 | cons y a ih=>
  grind [idxFrom]
theorem eF{W:World}{base g cap:Nat}{a b:List Nat}{m:Nat}(h:W.ownsRow base 3 1 (.slice (some ⟨g,0,none⟩) m cap) m ((a++b).map nV))(hm:m=(a++b).length){B:Nat}(hB:W.heap.size<=B):
  IntsIn W B (b.map λx:Nat=>(x:Int)) (.slice (some ⟨g,a.length,none⟩) b.length (cap-a.length)):=by
 subst hm;obtain⟨ao,cap',he,h1,h2,h4⟩:=Sm h hB;rw[List.length_map]at he h1
 injection he with e1 e2 e3
 subst e1 e3;refine⟨some ⟨g,a.length,none⟩,cap-a.length,by grind,by grind,by omega,λhne=>?_⟩;obtain⟨b',off,ha,hlt,hc⟩:=h4 (by simp_all);cases ha
 refine⟨g,_,rfl,hlt,λj hj=>?_⟩;have:=hc (a.length+j) (by grind)
 grind
theorem CW:(Tryz.prog.info? 26).map (λi=>(i.zero,i.size,i.bytes))=some (some (.slice none 0 0),1,24):=by kernel_rfl
theorem uT{G:Nat->List Nat}{P:Nat->Prop}{s:TS}{n:Nat}(h:Inv G P s)(hv:∀x∈s.ng,x<n)(hn:n<=1000):(aj G s.jd).length<=1000:=by
 have h1:(aj G s.jd).length<=s.jd.length:=by grind [aj]
 have h2:∀(l:List (List Nat)),(∀c∈l,c≠[])->l.length<=l.flatten.length:=by
  intro l
  induction l with
  | nil=>intro _;simp
  | cons c l ih=>
   grind [List.length_pos_iff]
 have h3:=h2 _ h.ne;have h4:=List.Nodup.length_le_of_subset h.once (λx hx=>(h.part x).2 (.inr hx));have h5:=cF h.vn hv;omega
theorem bH(w0:World)(H nb n:Nat)(rows:List (List Nat))(hE:qV w0 H nb n rows)(hn:n<=1000)(NT:∀k,∀x∈rows.getD k [],x<n)(N:Nat)(IH:Dz w0 H n rows N):Dz w0 H n rows (N+1):=by
  intro i P s W hN hi XK hvn hst;obtain⟨UG,vA,⟨lL,Mm,Uk⟩,⟨lO,rO,BB⟩,v,u,vals,ol,Rj,Ju⟩:=hst;have X1:∀x∈s.stack,x∈s.ng:=λx hx=>XK.inv.ze hx
  have wU:=cF XK.inv.vn hvn
  have SP:s.stack.length<=1000:=by{have h:=XK.inv.up;have oR:s.stack.Nodup:=XK.inv.ord.imp (λ{a b} hab e=>by subst e;omega);have:=List.Nodup.length_le_of_subset oR X1;omega}
  obtain⟨t1,t2,t3,t4,t5⟩:=boxes hE UG;obtain⟨W1,IX,CJ,yY⟩:=run_store vj.key Tryz.underlying173 vA i s.ng.length;have BP:=run_len_map vA Tryz.underlying173 3;rw[uI]at BP;have fr1:=UG.grown (Kg yY) (λb e=>by cases e;omega);obtain⟨a1,a2,a3,a4,a5⟩:=boxes hE fr1;have h_:=zk vj.key Tryz.underlying173 Ip CJ i;rw[Ve]at h_;have zY:=Mm.Lw yY (by omega);obtain⟨W2,ZB,IL,U1⟩:=run_store vj.key Tryz.underlying173 zY i s.ng.length;have fr2:=fr1.grown (Kg U1) (λb e=>by cases e;omega);obtain⟨b1,b2,b3,b4,b5⟩:=boxes hE fr2;have Y1:=(ol.grown (Kg yY) (by simp) (pe ol.own (by omega))).grown (Kg U1) (by simp) (pe ol.own (by omega));have b6:W2.cell? _=some v:=Y1.Pd.cell 0;have i_:=(rO.Lw yY (by omega)).Lw U1 (by omega);have yI:=Lib.hid Y1;have XV:=Lib.hid i_;have j_:=Lib.hid fr2;have AY:=Lib.hid (λ(w1 w3) (gg cap) hg ho ha h3 JO=>oT (w1:=w1) (w3:=w3) (gg:=gg) (cap:=cap) XK.fresh X1 UG CJ yY Mm Uk IL U1 rO BB ol Rj Ju hg ho ha h3 JO);have HE:=Lib.hid hE;have Z1:=Lib.hid XK;have CI:=Lib.hid IH;have HVN:=Lib.hid hvn;have UY:=Lib.hid NT;clear UG vA Mm Uk rO BB ol Rj Ju X1 CJ yY zY IL U1 fr1 fr2 Y1 i_ hE XK IH hvn NT;obtain⟨i0,Kw,yx,XY,BA⟩:=info_parts CD;go_enter Tryz.func98,Tryz.ntmps98;go_upto_region 2 with(fail)
  go_cut[] (λwx=>Hid (UO w0 H (Sn rows) (s.push i) wx))
  case first=>
    have abn:=j_.out.size;have arb:H+2<W2.heap.size:=by omega
    have arc:H+8<W2.heap.size:=by omega
    go_region_law (refine step_append_lies _ (by rfl) _ _ _ (by rfl) _ 3 i0 _ 1 8 Tryz.underlying26 Kw yx XY BA rfl (by omega) v _ _ (by rfl) ((yI.out.own.alloc _).drew) _ 1 1 [.int _ i] (by rfl) (by rfl) (World.news_of_block (heap_alloc_new W2 _)) (by simp[Value.oneCell']) (by omega) (by unfold maxLen;omega) (by omega) (by simp;omega) (W2.heap.size+1) (by simp) ?_;intro gg cap w1 vI qD lF S5;have UW:=sk1 yI.out qD;have s6:w1.cell? _=some v:=UW.cell 0;have z6:=UW.frozen 0;have s3:=(d_ yI.out qD (by omega) (by omega)).trans b3;obtain⟨w3,oX,ho3,JO⟩:=run_store vj.key Tryz.underlying61 (on1 yI.out XV.out qD (.slice (some ⟨gg,0,none⟩) (s.stack.length+1) cap)) i true)
    all_goals
      have HT:=Lib.hid (AY.out w1 w3 gg cap qD vI lF ho3 JO);go_wp2;go_meet;exact HT
  case rest=>
    clear t1 t2 t3 t4 t5 a1 a2 a3 a4 a5 b1 b2 b3 b4 b5 b6 IX ZB BP h_ yI XV j_ AY;obtain⟨bb,wM,hnb,j2,A2⟩:=HE.out.by_;obtain⟨rv,DW,EW⟩:=A2 i hi;obtain⟨ao,ard,rfl,rl1,rl2,_⟩:=Sa.shape EW;simp only[List.length_map]at DW EW rl1;unfold maxLen at rl2;have B2:=hcut.out.fr.below;obtain⟨t1,t2,t3,t4,t5⟩:=boxes HE.out hcut.out.fr;have m4:=(B2.cell (by simp;omega)).trans j2;have m5:=(B2.cell (by simp;omega)).trans DW;have i':=Lib.hid EW;have agl:=Lib.hid DW;have agm:=Lib.hid j2;have ari:=Lib.hid A2;have afO:0<=(i:Int):=Int.natCast_nonneg _;have afP:i<(n:Int):=by omega
    have V7:Hid (∀x∈(s.push i).ng,x<n):=λx hx=>by
      rcases List.mem_append.1 hx with h|h
      . exact HVN.out x h
      . simp at h;omega
    have Z4:=Lib.hid (yU Z1.out);have hed:Sn rows i=rows.getD i []:=rfl;generalize agn:rows.getD i []=row at*
    have HED:=Lib.hid hed;clear j2 A2 DW EW B2 hed agn;go_wp2
    go_loopw [40] (λiv wr=>∃(k:Nat) (sx:TS),k<=row.length/\iv=.int .i64 k/\Hid (LI (Sn rows) P i s (row.take k) sx)/\Hid (∀x∈sx.ng,x<n)/\Hid (UO w0 H (Sn rows) sx wr)) (λiv _=>row.length-(intOf iv).toNat)
    case atStart=>exact⟨0,_,(by omega),rfl,Z4,V7,hcut⟩
    case round=>
      obtain⟨k,sx,hk,rfl,tD,hv,hst⟩:=hrel;clear Z4 V7 hcut t1 t2 t3 t4 t5 m4 m5;obtain⟨t1,t2,t3,t4,t5⟩:=boxes HE.out hst.out.fr;by_cases hlt:k<row.length
      . have hrw:=i'.out.below (hst.out.fr.below.mono (by omega))
        obtain⟨rb,ro,rfl,_,hcx⟩:=Sa.one hrw k (by rw[List.length_map];exact hlt);rw[List.getElem_map]at hcx;have AP:Hid _:=List.take_succ_eq_append_getElem hlt;have hxe:row[k]∈Sn rows i:=by rw[HED.out];exact List.getElem_mem hlt
        have M_:=UY.out i _ hxe;generalize row[k]=x at*
        have YO:=Lib.hid hxe;have hmn:=hst.out.num;have Yr:=af vj.key Tryz.underlying173 Ip hmn x;rw[Ak,Nat.zero_add]at Yr;clear hmn hxe hrw;by_cases tU:x∈sx.ng
        . rw[if_pos tU]at Yr
          have HXV:=Lib.hid tU;clear tU;obtain⟨lO,rO,BB⟩:=hst.out.on;have QT:=AW rO BB x;clear rO BB;by_cases k_:x∈sx.stack
          . rw[decide_eq_true k_]at QT
            obtain⟨lL,Mm,Uk⟩:=hst.out.low;have vT:=tD.out.inv.ze tD.out.mem;have dU:=zq Mm (Uk i vT);have IL:=wI hst.out.num HXV.out;have KV:=Lib.hid (tD.out.on YO.out k_);obtain⟨W',hrun,sU,hu⟩:=run_store vj.key Tryz.underlying173 Mm i ((min (sx.low i) (sx.num x):Nat));have HT2:=Lib.hid (rD hst.out vT Mm Uk sU hu)
            change _=Result.ok (Value.int _ (sx.num x)) wr at IL
            have XA:=hv;clear Mm Uk vT k_ sU hu hst hv tD;rw[show((min (sx.low i) (sx.num x):Nat):Int)=min (sx.low i:Int) (sx.num x:Int) by omega]at hrun;go_wp2;go_roundw
            case rel=>exact⟨k+1,sx.lower i _,by omega,by go_num,by rw[AP.out];exact KV,XA,HT2⟩
            case measure=>simp[intOf];omega
          . rw[decide_eq_false k_]at QT
            have KV:=Lib.hid (tD.out.off HXV.out k_);have VD:=hst;have XA:=hv;go_wp2;go_roundw
            case rel=>exact⟨k+1,sx,by omega,by go_num,by rw[AP.out];exact KV,XA,VD⟩
            case measure=>simp[intOf];omega
        . rw[if_neg tU]at Yr
          have akB:s.ng.length+1<=sx.ng.length:=by{obtain⟨l,hl⟩:=tD.out.ng;rw[hl];simp}
          have HI:=Lib.hid (CI.out x (λy=>P y\/y=i) sx wr (by omega) M_ (tD.out.child YO.out tU) hv.out hst.out);have HXV:=Lib.hid tU;have Z4:=tD;clear tU tD hst hv
          go_wp2_with
            (go_at_call 98;refine HI.out.mono ?_;rintro e w4 ⟨rfl,s1,dM,hv1,FW⟩
             obtain⟨q1,q2,q3,q4,q5⟩:=boxes HE.out FW.fr
             obtain⟨lL,Mm,Uk⟩:=FW.low
             have vT:i∈s1.ng:=by{obtain⟨l,hl⟩:=dM.ng;rw[hl];exact List.mem_append_left _ (Z4.out.inv.ze Z4.out.mem)}
             have tU:x∈s1.ng:=by{obtain⟨l,hl⟩:=dM.ng;rw[hl];simp}
             have dU:=zq Mm (Uk i vT)
             have IL:=zq Mm (Uk x tU)
             have KV:=Lib.hid (Z4.out.fresh YO.out HXV.out dM)
             obtain⟨W',hrun,sU,hu⟩:=run_store vj.key Tryz.underlying173 Mm i ((min (s1.low i) (s1.low x):Nat))
             have HT2:=Lib.hid (rD FW vT Mm Uk sU hu)
             have XA:=Lib.hid hv1
             rw[show((min (s1.low i) (s1.low x):Nat):Int)=min (s1.low i:Int) (s1.low x:Int) by omega]at hrun
             clear Mm Uk vT tU dM hv1 FW sU hu)
          go_roundw
          case rel=>exact⟨k+1,s1.lower i _,by omega,by go_num,by rw[AP.out];exact KV,XA,HT2⟩
          case measure=>simp[intOf];omega
      . have mH:k=row.length:=by omega
        subst mH;rw[List.take_length, <-HED.out]at tD;have l_:=tD.out.mem;have vT:=tD.out.inv.ze l_;obtain⟨lL,Mm,Uk⟩:=hst.out.low;have dU:=zq Mm (Uk i vT);have IL:=wI hst.out.num vT
        change _=Result.ok (Value.int _ (sx.num i)) wr at IL
        clear Mm Uk;by_cases heq:sx.low i=sx.num i
        . have hne:((sx.low i) !=(sx.num i:Int))=false:=by rw[heq];simp
          obtain⟨new,eA,_⟩:=tD.out.sP;have agr:=hst;obtain⟨UG,vA,m_,⟨lO,rO,BB⟩,v,u,vals,ol,Rj,Ju⟩:=hst.out;have oR:sx.stack.Nodup:=tD.out.inv.ord.imp (λ{a b} hab e=>by subst e;omega);have GF:sx.stack.length=s.stack.length+(new.length+1):=by rw[eA];simp
          have hmx:sx.stack.length<=1000:=by{have h1:=List.Nodup.length_le_of_subset oR (λx hx=>tD.out.inv.ze hx);have h2:=cF tD.out.inv.vn hv.out;omega}
          obtain⟨g,cap,rfl,MU,adp⟩:=ol.own.form (by omega)
          have uC:sx.stack.length<=cap/\cap<=9223372036854775807:=by
            rcases ol.own.2 with⟨e,_⟩|⟨g',cap',Aq,e,_,_,h1,h2,_⟩
            . cases e
            . cases e;exact⟨h1,h2⟩
          obtain⟨JX,akC⟩:=uC;have eM:=Lib.hid (tD.out.abx heq eA);have HOL:=Lib.hid (uT tD.out.inv hv.out hn);have hni:i∉s.stack:=λe=>Z1.out.fresh (Z1.out.inv.ze e)
          have qU:=Ys _ i _ wr _ (Sm ol.own (Nat.le_refl _));rw[eA,tO _ _ _ hni,Int.zero_add, <-eA]at qU;have qU:=Lib.hid qU
          have vF:=pO ((i::new).map λx:Nat=>x) _ _ wr _ _ (by simp) (by simp;omega) (by have:=UG.size;omega) (Nat.le_refl _)
            (by have h:=eF (by rw[<-eA];exact ol.own) (by rw[eA]) (Nat.le_refl _);rw[List.length_map];exact h)
          have b6:wr.cell? _=some (.slice _ _ cap):=ol.Pd.cell 0;simp only[List.length_map,List.length_cons,List.map_map]at vF;have pL:=Lib.hid vF;have VD:=Lib.hid ol;have HOU:=Lib.hid Rj;have HDI:=Lib.hid Ju;have JP:=Lib.hid UG;have G4:=Lib.hid rO;have ags:=Lib.hid BB;have Z2:=Lib.hid oR;have agt:=Lib.hid eA;have XA:=hv;obtain⟨fr,BT⟩:∃fr,fr=s.stack.length:=⟨_,rfl⟩;obtain⟨m,G3⟩:∃m,m=sx.stack.length:=⟨_,rfl⟩;obtain⟨gl,DX⟩:∃gl,gl=new.length+1:=⟨_,rfl⟩;rw[<-BT]at qU pL;rw[<-G3]at b6 qU;rw[<-DX]at pL;have fr1:fr+gl=m:=by omega
          have fr2:1<=gl:=by omega
          have fr3:m<=cap:=by omega
          have fr4:m<=1000:=by omega
          have fr5:0<=(fr:Int):=Int.natCast_nonneg _;have fr6:¬cap=fr:=by omega
          have HFE:=Lib.hid BT;have HME:=Lib.hid G3;have vX:=Lib.hid DX;clear heq tD hst hv l_ vT eA oR GF hmx JX hni vF ol Rj Ju UG rO BB vA m_ BT G3 DX SP wU;go_wp2_with (go_at_call 99;refine qU.out.mono ?_;rintro e w4 ⟨rfl,rfl⟩);rw[show m-fr=gl by omega];refine pL.out.mono ?_;rintro e w5 ⟨gv,rfl,uQ,nF,gg,gc,agu,e_⟩;have n_:=JP.out.grown (jg nF) (λb e=>by cases e);have K4:=VD.out.Pd.grown (jg nF) (by simp);have s6:w5.cell? ⟨H+2,0,none⟩=some (.slice (some ⟨g,0,none⟩) m cap):=by rw[HME.out];exact K4.cell 0
          have z6:=K4.frozen 0;have dr:=Lib.hid nF;have zN:=Lib.hid uQ;have agv:=Lib.hid n_;have o_:Hid (Wb _ _ (w5.setCell ⟨H+2,0,none⟩ (.slice (some ⟨g,0,none⟩) fr cap)) _ lO):=(G4.out.grown (jg nF) (by simp)).grown (grownBy_setCell' _ _ _) (by simp);clear n_ K4 nF uQ;subst agu;go_wp2;obtain⟨wt,hwt⟩:∃wt,wt=w5.setCell ⟨H+2,0,none⟩ (.slice (some ⟨g,0,none⟩) fr cap):=⟨_,rfl⟩;rw[<-hwt]at o_⊢;have HWT:=Lib.hid hwt;clear hwt
          have p_:Hid (wt.ownsRow (H+10) 3 1 (.slice (some ⟨gg,0,none⟩) gl gc) gl ((i::new).map nV)):=by{have h:=zN.out.kept (grownBy_setCell' w5 (H+2) (.slice (some ⟨g,0,none⟩) fr cap)) (pe zN.out (by omega));rw[HWT.out];exact h}
          have agy:Hid (Fr w0 H wt):=by{rw[HWT.out];exact agv.out.grown (grownBy_setCell' w5 _ _) (λb e=>by cases e;omega)}
          clear s6 z6 b6
          go_loopw [96] (λiv wr=>∃(j:Nat),j<=gl/\iv=.int .i64 j/\Hid (∃l,Wb (Value.int .i64) Value.bool wr (H+7) l/\∀x:Nat,(l.lookup (x:Int)).getD false=(decide (x∈sx.stack)&& !decide (x∈(i::new).take j)))/\Hid (wt.grownBy wr (some (H+7)))) (λiv _=>gl-(intOf iv).toNat)
          case atStart=>exact⟨0,(by omega),rfl,⟨lO,o_,λx=>by rw[ags.out];simp⟩,⟨rfl,rfl,rfl,(by omega),λ_ _ _=>rfl⟩⟩
          case round=>
            obtain⟨j,hj,rfl,LU,kL⟩:=hrel;have IW:=agy.out.grown kL.out (λb e=>by cases e;omega);obtain⟨q1,q2,q3,q4,q5⟩:=boxes HE.out IW;have PI:gl=(i::new).length:=by rw[vX.out];simp
            by_cases YI:j<gl
            . have nI:=p_.out.kept kL.out (pe p_.out (by omega))
              rw[PI]at nI;obtain⟨b1,o1,U5,_,hcy⟩:=Sa.one (Sm nI (Nat.le_refl _)) j (by rw[List.length_map, <-PI];exact YI);cases U5
              rw[List.getElem_map,Nat.zero_add]at hcy;have q_:j<(i::new).length:=by rw[<-PI];exact YI
              have AP:=List.take_succ_eq_append_getElem q_;generalize(i::new)[j]=y at*
              obtain⟨l7,hl7,hl8⟩:=LU.out;obtain⟨W',hrun,sU,hu⟩:=run_store vj.key Tryz.underlying61 hl7 y false
              have UT:Hid (∃l,Wb (Value.int .i64) Value.bool W' (H+7) l/\∀x:Nat,(l.lookup (x:Int)).getD false=(decide (x∈sx.stack)&& !decide (x∈(i::new).take (j+1)))):=by
                refine⟨_,sU,λx=>?_⟩;by_cases hxy:x=y
                . subst hxy;rw[Ve,AP];simp
                . rw[ef _ _ (by omega),hl8,AP];simp[hxy]
              have C4:=Lib.hid (kL.out.trans (Kg hu));clear nI AP hl7 hl8 sU hu LU kL IW q_ PI;go_wp2;go_roundw
              case rel=>exact⟨_,by omega,by go_num,UT,C4⟩
              case measure=>simp[intOf];omega
            . have hjg:j=gl:=by omega
              subst hjg
              have Y2:pT w0 H (Sn rows) s sx (i::new) (.slice (some ⟨gg,0,none⟩) j gc) wr:=by{apply V1 agr.out agt.out Z2.out VD.out HOU.out HDI.out dr.out (by rw[<-PI];exact zN.out) ⟨gg,gc,by rw[<-PI],e_⟩ (by rw[<-HFE.out, <-HWT.out];exact kL.out);obtain⟨l,h1,h2⟩:=LU.out;rw[PI,List.take_length]at h2;exact⟨l,h1,h2⟩}
              have A8:=Lib.hid Y2;have c5:=Lib.hid PI;clear Y2 PI LU kL;have JT:=IW.below;have m4:=(JT.cell (by simp;omega)).trans agm.out;have m5:=(JT.cell (by simp;omega)).trans agl.out;have hct:=Vo _ i _ wr H (i'.out.below (JT.mono (by omega)));rw[kt]at hct;have hnt:qh (Sn rows) (i::new)=(!new.isEmpty || row.contains i):=by rw[<-HED.out];rfl
              have SR:new.isEmpty=decide (j=1):=by rw[c5.out];cases new<;>simp
              rw[SR]at hnt;have NI:=Lib.hid hct;clear hct SR JT IW;by_cases uD:qh (Sn rows) (i::new)=true
              . have QR:decide (1<(j:Int))=true\/(decide (1<(j:Int))=false/\row.contains i=true):=by
                  by_cases h1:j=1
                  . right
                    rw[hnt,decide_eq_true h1]at uD;exact⟨decide_eq_false (by omega),by simpa using uD⟩
                  . left;exact decide_eq_true (by omega)
                obtain⟨pf,pn,pl,po,v',u',wT,ps1,ps2,ps3,r_,ps5,ps6⟩:=A8.out
                have HSO:Hid (Calls Tryz.prog 100 #[.slice (some ⟨gg,0,none⟩) j gc] wr λe w'=>e=.returned (.tuple #[])/\
                    w'.ownsRow (H+10) 3 1 (.slice (some ⟨gg,0,none⟩) j gc) (i::new).length ((((i::new).map λx:Nat=>(x:Int)).mergeSort λx y=>decide (x<=y)).map iV)/\wr.grownBy w' (some gg)):=by
                  have h:=qO ((i::new).map λx:Nat=>x) gg gc _ wr (by rw[List.length_map, <-c5.out];omega) (by rw[List.length_map,List.map_map, <-c5.out];rw[<-c5.out]at r_;exact r_);rw[List.length_map, <-c5.out]at h;rw[<-c5.out];exact h
                have arq:wT.length<=1000:=by rw[ps2.len];exact HOL.out
                have s_:=Lib.hid (λ(w8 w9) (gu cu) a1 a2 a3 a4=>rT (w8:=w8) (w9:=w9) (gu:=gu) (cu:=cu) uD pf pn pl po ps1 ps2 ps3 r_ ps5 ps6 a1 a2 a3 a4);have HO:=Lib.hid ps2;have agA:=Lib.hid r_;have WO:=Lib.hid pf;obtain⟨i1,B5,QI,jF,ez⟩:=info_parts CW;clear pf pn pl po ps1 ps2 ps3 r_ ps5 ps6 hnt uD;rcases QR with d1|⟨d1,d2⟩
                all_goals
                  try rw[d2]at NI
                  go_wp2_with (first
                    | (go_at_call 97;refine NI.out.mono ?_;rintro e w3 ⟨rfl,rfl⟩)
                    | (go_at_call 100;refine HSO.out.mono ?_;rintro e w8 ⟨rfl,tT,oL⟩;have mW:=HO.out.Pd.grown oL (by simp;omega);have c8:w8.cell? ⟨H+1,0,none⟩=some u':=mW.cell 0;have hO8:=HO.out.own.kept oL (wi HO.out.own agA.out (by decide));have agB:=Lib.hid tT;have C4:=Lib.hid oL;have UT:=Lib.hid hO8;have Wu:=Lib.hid mW;have j7:H+10<=w8.heap.size:=Nat.le_trans WO.out.size oL.size;clear tT oL mW hO8)
                    | (at_builtin;refine wpList_append_own_at _ rfl _ _ 132 rfl (H+10) 26 i1 _ 1 24 Tryz.underlying132 B5 QI jF ez rfl (by decide) u' wT.length wT rfl (UT.out.alloc _) ⟨w8.heap.size,0,none⟩ 1 1 [.slice (some ⟨gg,0,none⟩) j gc] rfl rfl (cell_one_new _ _ _) (by simp[Value.oneCell']) (by unfold maxLen;omega) (by omega) (by simp;omega) ?_;intro v9 w9 dx Wz WL aW;obtain⟨gu,cu,hv9,_,_⟩:=dx.form (by omega);subst hv9;have pR:=(Wu.out.grown (World.grownBy_alloc w8 (.cells #[.slice (some ⟨gg,0,none⟩) j gc] 26) none) (by simp)).grown Wz (λe=>by have:=pe UT.out (show H+1<H+10 by omega);rw[<-e]at this;simp at this);have c9:w9.cell? ⟨H+1,0,none⟩=some u':=pR.cell 0;have z9:=pR.frozen 0;have C2:=Lib.hid (s_.out w8 w9 gu cu C4.out agB.out Wz dx);clear dx Wz WL aW pR))
                  go_end0
                  exact⟨rfl,_,eM.out,XA.out,C2.out⟩
              . have hq:qh (Sn rows) (i::new)=false:=by simpa using uD
                rw[hnt]at hq;simp only[Bool.or_eq_false_iff,Bool.not_eq_false',decide_eq_true_iff]at hq;obtain⟨PO,hrc⟩:=hq;have C2:=Lib.hid (sO A8.out (by simpa using uD));rw[hrc]at NI;go_wp2_with (go_at_call 97;refine NI.out.mono ?_;rintro e w3 ⟨rfl,rfl⟩)
                go_end0
                exact⟨rfl,_,eM.out,XA.out,C2.out⟩
        . have hne:((sx.low i) !=(sx.num i:Int))=true:=by rw[bne_iff_ne];omega
          have eM:=Lib.hid (tD.out.stay heq);have VD:=hst;have XA:=hv;go_wp2;exact bodyPost_ret (results_none rfl _ _ _) rfl ⟨rfl,sx,eM.out,XA.out,VD.out⟩
structure El (w : World) (base : Nat) where
 v:Value
 l:List Int
 own:w.ownsRow base 3 1 v l.length (l.map iV)
 ne:l≠[]
 bd:∀x∈l,0<=x/\x<=1000
def hd(l:List Int):Int:=l.head?.getD 0
theorem CY{l:List Int}(hne:l≠[])(h:∀x∈l,0<=x/\x<=1000):0<=hd l/\hd l<=1000:=by
 cases l with| nil=>grind| cons a m=>exact h a (by simp)
theorem El.form{w:World}{base:Nat}(e:El w base):∃g c,e.v=.slice (some ⟨g,0,none⟩) e.l.length c/\g<w.heap.size/\w.cell? ⟨g,0,none⟩=some (.int .i64 (hd e.l))/\0<e.l.length:=by
 have oE:=List.length_pos_iff.2 e.ne
 obtain⟨g,cap,hv,_,hlt,_,_,_,hH⟩:=Lib.holds_of_ownsRow (enc:=Value.int _) e.own (by
  intro hv
  have h:=e.own
  rw[hv]at h
  rcases h.2 with⟨_,h0⟩|⟨g,cap,Aq,h0,_⟩
  {omega}
  ·cases h0)
 refine⟨g,cap,hv,hlt,?_,oE⟩;have h:=(hH 0 (by omega)).1;rw[h];congr 2
 unfold hd;cases hl:e.l with| nil=>grind| cons a m=>simp
def t_{w:World}{base:Nat}(x y:El w base):Int:=hd x.l-hd y.l
theorem JW(w:World)(base:Nat):SWO (ltOf (t_ (w:=w) (base:=base))):=
 have e:∀x y:El w base,ltOf t_ x y=decide (hd x.l-hd y.l<0):=λ_ _=>rfl
 ⟨λx=>by rw[e];simp,λx y z h1 h2=>by grind,λx y z h1 h2=>by grind⟩
theorem KW(W:World)(b1 b2 n1 n2 c1 c2:Nat)(x y:Int)(h1:W.cell? ⟨b1,0,none⟩=some (.int .i64 x))(h2:W.cell? ⟨b2,0,none⟩=some (.int .i64 y))(CJ:0<n1)(CX:0<n2)(hx:0<=x/\x<=1000)(hy:0<=y/\y<=1000):
  Calls Tryz.prog 102 #[.slice (some ⟨b1,0,none⟩) n1 c1,.slice (some ⟨b2,0,none⟩) n2 c2] W λe w'=>e=.returned (.int .i64 (x-y))/\∃q,w'=W.drewN q:=by
 have p1:0<(n1:Int):=by omega
 have p2:0<(n2:Int):=by omega
 obtain⟨QI,jF⟩:=hx;obtain⟨hy0,hy1⟩:=hy;go_enter Tryz.func102,Tryz.ntmps102;go_upto_region 1 with(fail)
 go_quiet(fail)
 go_wp2;go_ret;exact⟨by go_num,_,rfl⟩
theorem uO(w:World)(base g size:Nat)[Inhabited (El w base)](hg:∀e:El w base,e.v.ownBlock≠some g):CmpReads Tryz.prog 102 #[] (El.v (w:=w) (base:=base)) t_ g 0 size w:=by
 intro m os dk _ x y;obtain⟨b1,c1,e1,l1,k1,n1⟩:=x.form;obtain⟨b2,c2,e2,l2,k2,n2⟩:=y.form;have km:b1≠g:=λe=>hg x (by rw[e1,e];rfl)
 have Am:b2≠g:=λe=>hg y (by rw[e2,e];rfl)
 have hc:∀b z,b<w.heap.size->b≠g->w.cell? ⟨b,0,none⟩=some z->(sortWorld El.v w g 0 m dk os).cell? ⟨b,0,none⟩=some z:=λb z hb hne h=>by
  have G1:=(nl El.v w m g dk).block b hb (by grind);have G2:=(gm _ os).block b (Nat.lt_of_lt_of_le hb (nl El.v w m g dk).size) (by simp)
  grind [sortWorld,World.cell?]
 have h:=KW _ b1 b2 _ _ c1 c2 _ _ (hc _ _ l1 km k1) (hc _ _ l2 Am k2) n1 n2 (CY x.ne x.bd) (CY y.ne y.bd);rw[<-e1, <-e2]at h;exact h
theorem uN{w:World}{base:Nat}(fF:List (El w base))(g cc:Nat)(hne:fF≠[])(hsz:fF.length<=100000)(h:w.ownsRow base 26 1 (.slice (some ⟨g,0,none⟩) fF.length cc) fF.length (fF.map El.v)):
  Calls Tryz.prog 101 #[.slice (some ⟨g,0,none⟩) fF.length cc,.func (.func 102) #[] #[]] w λe w'=>e=.returned (.tuple #[])/\
   ∃D2:List (El w base),D2.Perm fF/\D2.Pairwise (λa b=>hd a.l<=hd b.l)/\w'.ownsRow base 26 1 (.slice (some ⟨g,0,none⟩) fF.length cc) fF.length (D2.map El.v)/\w.grownBy w' (some g):=by
 cases fF with
 | nil=>exact absurd rfl hne
 | cons a0 m0=>
  haveI:Inhabited _:=⟨a0⟩
  generalize he:a0::m0=fF at*
  obtain⟨g',cap',e,hb,hlt,h1,h2,h3,hH⟩:=Lib.holds_of_ownsRow h (by simp);cases e
  have eg:∀args w,(callFunc 102 args).run _ w=.ok _ w:=enters_of Tryz.func102 (by kernel_rfl) rfl
  have hg:∀e:El w base,e.v.ownBlock≠some g:=λe he=>by
   rcases wi e.own h (by decide)with h5|h5
   ·grind
   {exact h5 (by rw[he];rfl)}
  have u_:=Tryz.slices_SortFunc _ (λe=>by obtain⟨b,c,hv,_⟩:=e.form;rw[hv];rfl) t_ (JW w base) 102 #[] g 0 cc _ w eg (uO w base g _ hg).lays hH hlt (by simp;omega);rw[List.size_toArray]at u_;refine u_.mono ?_;rintro e w' ⟨rfl,d',n,os,hp,hs,rfl⟩;obtain⟨hp1,_,hp2⟩:=hp;rw[List.size_toArray]at hp1;have yM:d'.toList.length=fF.length:=by omega
  have h4:=Lib.ownsRow_putRow (q:=n) h yM (Nat.le_refl _);rw[List.take_of_length_le (by omega),Array.toArray_toList]at h4;refine⟨rfl,_,?_,?_,h4.kept (gm _ os) (.inr (by simp[Value.ownBlock])),?_⟩
  ·have x1:(d'.extract 0 fF.length).toList=d'.toList:=by rw[show fF.length=d'.size from yM.symm];simp
   grind
  ·rw[List.pairwise_iff_getElem]
   intro i j hi hj hij;have h5:=hs i j (Nat.zero_le _) hij (by omega);have h6:=of_decide_eq_false h5
   grind [t_]
  {have g1:=nl (El.v) w n g d';have g2:=gm (putRow (El.v) (Sort.ahead w n) g 0 d') os;exact⟨g2.os.trans g1.os,g2.tape.trans g1.tape,g2.output.trans g1.output,Nat.le_trans g1.size g2.size,λk hk hne=>(g2.block k (Nat.lt_of_lt_of_le hk g1.size) (by simp)).trans (g1.block k hk hne)⟩}
theorem sR{W:World}{base:Nat}:∀(vals:List Value) (outs:List (List Int)),vals.length=outs.length->
  (∀k,k<outs.length->W.ownsRow base 3 1 (vals.getD k undef) (outs.getD k []).length ((outs.getD k []).map iV)/\outs.getD k []≠[])->(∀o∈outs,∀x∈o,0<=x/\x<=1000)->
  ∃fF:List (El W base),fF.map El.v=vals/\fF.map El.l=outs
 | [],[],_,_,_=>⟨[],rfl,rfl⟩
 | v::vs,o::os,hl,h,hb=>by{obtain⟨fF,h1,h2⟩:=sR vs os (by grind) (λk hk=>by have:=h (k+1) (by simp;omega);simpa using this) (λo' ho'=>hb o' (List.mem_cons_of_mem _ ho'));have h0:=h 0 (by simp);exact⟨⟨v,o,by grind,by grind,hb o (by simp)⟩::fF,by simp[h1],by simp[h2]⟩}
 | [],_::_,hl,_,_=>by simp at hl
 | _::_,[],hl,_,_=>by simp at hl
def Ts(c:List Nat):List Nat:=c.mergeSort λx y=>decide (x<=y)
theorem xA(c:List Nat)(x:Nat):x∈Ts c↔x∈c:=List.mem_mergeSort
theorem LW(c:List Nat):(Ts c).Pairwise (· <= ·):=by
 have h:=List.pairwise_mergeSort (le:=λx y=>decide (x<=y)) (λa b c h1 h2=>by grind) (λa b=>by simp;omega) c;exact h.imp λh=>by simpa using h
theorem MW{c:List Nat}(hn:c.Nodup):(Ts c).Pairwise (· < ·):=by
 have h2:(Ts c).Nodup:=(List.mergeSort_perm c _).nodup_iff.2 hn;exact(List.Pairwise.and (LW c) h2).imp λh=>by omega
theorem yA(G:Nat->List Nat)(jd:List (List Nat)):aj G jd=((jd.filter (qh G)).map Ts).map λl=>l.map λx:Nat=>(x:Int):=by
 grind [aj,List.map_congr_left,Ts,List.map_mergeSort]
theorem toNat_cast(l:List Nat):(l.map λx:Nat=>(x:Int)).map Int.toNat=l:=by
 rw[List.map_map];exact(List.map_congr_left λx _=>by simp).trans (List.map_id' l)
theorem LR(l:List Nat):hd (l.map λx:Nat=>(x:Int))=(key l:Int):=by
 cases l<;>simp[hd,key]
theorem NW{c:List Nat}(hc:c≠[]):key (Ts c)∈c:=by
 rw[<-xA]
 have:Ts c≠[]:=λe=>hc (by
  grind [List.length_mergeSort,Ts])
 cases h:Ts c with| nil=>grind| cons a m=>simp[key]
theorem MZ{G:Nat->List Nat}{n:Nat}{s:TS}(hG:∀x,∀y∈G x,y<n)(hi:Inv G (λ_=>False) s)(hv:∀x,x∈s.ng↔x<n)(out:List (List Int))(hp:out.Perm (aj G s.jd))(ho:out.Pairwise λa b=>hd a<=hd b):
  out=(Uh (eB G) n).map λl=>l.map λx:Nat=>(x:Int):=by
 have vF:s.jd.Pairwise λa b=>∀x∈a,x∉b:=by
  have:=hi.once
  grind
 have oR:∀c∈s.jd,c.Nodup:=λc hc=>by
  have:=hi.once
  grind
 obtain⟨q,hq,hqp⟩:∃q:List (List Nat),out=q.map (λl=>l.map λx:Nat=>(x:Int))/\q.Perm ((s.jd.filter (qh G)).map Ts):=by
  refine⟨out.map λl=>l.map Int.toNat,?_,?_⟩
  {rw[List.map_map];refine(List.map_id' out).symm.trans (List.map_congr_left λl hl=>?_);have h1:=hp.mem_iff.1 hl;rw[yA]at h1;obtain⟨m,_,rfl⟩:=List.mem_map.1 h1;simp_all}
  ·have h1:=hp.map (λl=>l.map Int.toNat)
   rw[yA,List.map_map (l:=(s.jd.filter (qh G)).map Ts)]at h1
   rw[show((s.jd.filter (qh G)).map Ts).map ((λl:List Int=>l.map Int.toNat)∘λl:List Nat=>l.map λx:Nat=>(x:Int))=(s.jd.filter (qh G)).map Ts from
    (List.map_congr_left λl _=>toNat_cast l).trans (List.map_id' _)]at h1
   exact h1
 subst hq;congr 1
 rw[List.pairwise_map]at ho;refine MA hG hi hv Ts xA (λc hc=>MW (oR c hc)) q (λx=>hqp.mem_iff) ?_
 have h1:((s.jd.filter (qh G)).map Ts).Pairwise λa b=>key a≠key b:=by
  rw[List.pairwise_map];refine List.Pairwise.imp_of_mem (λ{a b} ha hb hab he=>?_) (vF.filter (qh G));have ha':=hi.ne _ (List.mem_filter.1 ha).1;have AI:=hi.ne _ (List.mem_filter.1 hb).1
  grind [NW]
 have h2:=(hqp.pairwise_iff (R:=λa b=>key a≠key b) (λ{a b} h e=>h e.symm)).2 h1;refine(List.Pairwise.and ho h2).imp λ{a b} h=>?_
 grind [LR]
theorem tV{G:Nat->List Nat}{jd:List (List Nat)}(h:∀c∈jd,∀x∈c,x<=1000):∀o∈aj G jd,∀x∈o,0<=x/\x<=1000:=by
 grind [yA,xA]
theorem sV(G:Nat->List Nat)(jd:List (List Nat)):(aj G jd).length<=jd.length:=by
 grind [aj]
theorem LC:∀(l:List (List Nat)),(∀c∈l,c≠[])->l.length<=l.flatten.length
 | [],_=>by simp
 | c::l,h=>by{(have h1:=LC l λc hc=>h c (List.mem_cons_of_mem _ hc));have h2:=List.length_pos_iff.2 (h c (by simp));simp only[List.length_cons,List.flatten_cons,List.length_append];omega}
open Go.RowKit
theorem Nr(p:Option Addr)(cap:Nat)(fv:Value)(w:World):
  Calls Tryz.prog 101 #[.slice p 0 cap,fv] w λe w'=>e=.returned (.tuple #[])/\w'=w:=
 AnyF.slices_SortFunc_none {Tryz.uA with} p cap fv w
end Go.Proofs.YtdipkbobalnilaaGreatDoor
