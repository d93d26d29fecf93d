/- The walk of Build's recursion: a text that the memo knows. Bounds on the table. -/
import Derived.Test.YtejbgoigkefnfaaGreatDoorAl
import Derived.Test.YtejbgoigkefnfaaGreatDoorDgSN
import Derived.Test.YtejbgoigkefnfaaGreatDoorShelfC
import Derived.Lib.OwnBridge
set_option maxRecDepth 100000
set_option maxHeartbeats 4000000
namespace Go.Proofs.YtejbgoigkefnfaaGreatDoor
section
open Go.RowKit
open Go.Sort (grow)
theorem kw (z:List Int):∀(l pre:List Int) (a:Int),z=pre++a::l->(((List.range' (pre.length+1) l.length).filter (Lib.keeps z.toArray)).map (z.toArray[·]!))=Io a l
 | [],pre,a,_=>by simp[Io]
 | b::l,pre,a,hz=>by{have ih:=kw z l (pre++[a]) b (by rw[hz];simp);(have hl:(pre++[a]).length=pre.length+1:=la);rw[hl]at ih;have g0:z.toArray[pre.length]! =a:=by{rw[hz,getElem!_pos _ _ la];simp};have g1:z.toArray[pre.length+1]! =b:=by{rw[hz,getElem!_pos _ _ la];simp[List.getElem_append_right]};have hk:Lib.keeps z.toArray (pre.length+1)= !decide (b=a):=by{unfold Lib.keeps;simp only[Ke,g0,g1];by_cases h:b=a<;>simp[h]};rw[ib,List.range'_succ,Qh,hk,Io];by_cases h:b=a;{subst h;simpa using ih};{simp only[h,decide_false,Bool.not_false,if_true,if_false,Va,g1,ih]}}
theorem vJ (z:List Int):Lib.compact z=Ds z:=by
 cases z with| nil=>rfl| cons a l=>{have:=kw (a::l) l [] a rfl;unfold Lib.compact Lib.compactUpTo;rw[ib,List.range_eq_range',List.range'_succ,Qh];(have hk:Lib.keeps (a::l).toArray 0=true:=by simp[Lib.keeps]);rw[hk,if_pos rfl,Va,Ds];simp only[Cc,dc]at this;rw[dc,this];simp}
theorem uE {W:World}{base e size n:Nat}{v:Value}{xs:List Value}(h:W.ownsRow base e size v n xs)(os:Array Obj):(grow W os).ownsRow base e size v n xs:=
 Nd h ⟨rfl,rfl,rfl,by simp[grow],fun b hb=>by simp only[grow];rw[zg hb]⟩
theorem VB (fa:Fa)(FX:Nat)(n:Int)(W:World)(h2:W.cell? ⟨FX,2,none⟩=some (.int .i64 fa.lo))(h3:W.cell? ⟨FX,3,none⟩=some (.int .i64 fa.hi)):
  FnGives Tryz.prog 94 #[.pointer (some ⟨FX,0,none⟩)] #[.int .i64 n] (.bool (decide (n<fa.lo) || decide (fa.hi<n))) W:=by
 show Calls Tryz.prog 94 #[.int .i64 n,.pointer (some ⟨FX,0,none⟩)] W _
 by_cases h:n<fa.lo
 {go_enter Tryz.func94,Tryz.ntmps94;go_wp2;go_ret;(have e:(decide (n<fa.lo) || decide (fa.hi<n))=true:=by simp[h]);rw[e];exact⟨rfl,0,rfl⟩}
 {go_enter Tryz.func94,Tryz.ntmps94;go_wp2;go_ret;(have e:(decide (n<fa.lo) || decide (fa.hi<n))=decide (fa.hi<n):=by rw[Ia ia];rfl);rw[e];exact⟨rfl,0,rfl⟩}
theorem GI (W:World)(f:Fo)(ao:Option Addr)(cap:Nat)(fa:Fa):∃w0,w0=((((W.alloc (.cells #[.int .i64 f.op,.string f.name,.int .i64 f.cmp,.int .i64 f.n,.slice ao f.kids.length cap] 24)).alloc (.cells #[.string fa.name,.int .i64 fa.kind,.int .i64 fa.lo,.int .i64 fa.hi] 83)).alloc (.cells #[.int .i64 fa.lo] 3)).alloc (.cells #[.slice (some ⟨W.heap.size+1+1,0,none⟩) 1 1] 28)).alloc (.cells #[.func (.func 92) #[] #[.pointer (some ⟨W.heap.size+1,0,none⟩),.pointer (some ⟨W.heap.size+1+1+1,0,none⟩),.pointer (some ⟨W.heap.size+1+1+1+1,0,none⟩)]] 131)/\
  lP w0 (W.heap.size+1) (W.heap.size+2) fa/\ fH w0 (W.heap.size+2) [fa.lo] w0/\ Below W.heap.size W w0/\ w0.heap.size=W.heap.size+5/\ Bb w0 W.heap.size 24 #[.int .i64 f.op,.string f.name,.int .i64 f.cmp,.int .i64 f.n,.slice ao f.kids.length cap]:=by
 refine⟨_,rfl,?_,?_,?_,la,?_⟩
 {refine⟨?_,?_,ia,la⟩;{have q:=(((Bb.new (W.alloc (.cells #[.int .i64 f.op,.string f.name,.int .i64 f.cmp,.int .i64 f.n,.slice ao f.kids.length cap] 24)) 83 #[.string fa.name,.int .i64 fa.kind,.int .i64 fa.lo,.int .i64 fa.hi]).alloc (.cells #[.int .i64 fa.lo] 3)).alloc (.cells #[.slice (some ⟨W.heap.size+1+1,0,none⟩) 1 1] 28)).alloc (.cells #[.func (.func 92) #[] #[.pointer (some ⟨W.heap.size+1,0,none⟩),.pointer (some ⟨W.heap.size+1+1+1,0,none⟩),.pointer (some ⟨W.heap.size+1+1+1+1,0,none⟩)]] 131);simpa only[Ba]using q};{have q:=Bb.new ((((W.alloc (.cells #[.int .i64 f.op,.string f.name,.int .i64 f.cmp,.int .i64 f.n,.slice ao f.kids.length cap] 24)).alloc (.cells #[.string fa.name,.int .i64 fa.kind,.int .i64 fa.lo,.int .i64 fa.hi] 83)).alloc (.cells #[.int .i64 fa.lo] 3)).alloc (.cells #[.slice (some ⟨W.heap.size+1+1,0,none⟩) 1 1] 28)) 131 #[.func (.func 92) #[] #[.pointer (some ⟨W.heap.size+1,0,none⟩),.pointer (some ⟨W.heap.size+1+1+1,0,none⟩),.pointer (some ⟨W.heap.size+1+1+1+1,0,none⟩)]];simp only[Ba]at q;exact q}}
 {refine⟨rfl,rfl,rfl,ja _,fun _ _ _ _=>rfl,.slice (some ⟨W.heap.size+1+1,0,none⟩) 1 1,?_,?_,fun g e=>by cases e;exact .inl rfl⟩;{have q:=(Bb.new (((W.alloc (.cells #[.int .i64 f.op,.string f.name,.int .i64 f.cmp,.int .i64 f.n,.slice ao f.kids.length cap] 24)).alloc (.cells #[.string fa.name,.int .i64 fa.kind,.int .i64 fa.lo,.int .i64 fa.hi] 83)).alloc (.cells #[.int .i64 fa.lo] 3)) 28 #[.slice (some ⟨W.heap.size+1+1,0,none⟩) 1 1]).alloc (.cells #[.func (.func 92) #[] #[.pointer (some ⟨W.heap.size+1,0,none⟩),.pointer (some ⟨W.heap.size+1+1+1,0,none⟩),.pointer (some ⟨W.heap.size+1+1+1+1,0,none⟩)]] 131);simp only[Ba]at q;exact q};{have q:=World.alloc_heap_new ((W.alloc (.cells #[.int .i64 f.op,.string f.name,.int .i64 f.cmp,.int .i64 f.n,.slice ao f.kids.length cap] 24)).alloc (.cells #[.string fa.name,.int .i64 fa.kind,.int .i64 fa.lo,.int .i64 fa.hi] 83)) (.cells #[.int .i64 fa.lo] 3);simp only[Ba]at q;refine⟨rfl,.inr ⟨W.heap.size+1+1,1,#[.int .i64 fa.lo],rfl,ja _,?_,ja _,pa,rfl,rfl⟩⟩;rw[Tb _ _ _ la,Tb _ _ _ la];exact q}}
 {exact(((((za _ _).alloc (ja _) _).alloc la _).alloc (by simp;omega) _).alloc (by simp;omega) _).alloc (by simp;omega) _}
 {exact((((Bb.new W _ _).alloc _).alloc _).alloc _).alloc _}
theorem uo {W:World}{base g n cap:Nat}{zs:List Int}(h:W.ownsRow base 3 1 (.slice (some ⟨g,0,none⟩) n cap) n (zs.map iW)):Sort.Holds (Value.int .i64) W g 0 zs.toArray:=by
 obtain⟨g',c',e,_,_,_,_,_,q⟩:=Lib.holds_of_ownsRow h la;cases e
 exact q
theorem LA {w:World}{g q:Nat}(d:Array Int)(os:Array Obj):w.grownBy (grow (Sort.putRow (Value.int .i64) (Sort.ahead w q) g 0 d) os) (some g):=by
 refine⟨rfl,rfl,rfl,by simp[grow,Sort.putRow,Sort.mapBlock,Sort.ahead],fun k hk hne=>?_⟩;have h:g≠k:=fun e=>hne (by rw[e])
 simp only[grow];rw[zg (by simpa[Sort.putRow,Sort.mapBlock,Sort.ahead]using hk)];simp[Sort.putRow,Sort.mapBlock,Sort.ahead,Array.getElem?_modify,h]
theorem Dp {w:World}{g q:Nat}(d:Array Int):w.grownBy (Sort.putRow (Value.int .i64) (Sort.ahead w q) g 0 d) (some g):=by
 refine⟨rfl,rfl,rfl,by simp[Sort.putRow,Sort.mapBlock,Sort.ahead],fun k hk hne=>?_⟩;have h:g≠k:=fun e=>hne (by rw[e])
 simp[Sort.putRow,Sort.mapBlock,Sort.ahead,Array.getElem?_modify,h]
theorem tJ {W:World}{base e size n g cap:Nat}{xs:List Value}(h:W.ownsRow base e size (.slice (some ⟨g,0,none⟩) n cap) n xs):n<=cap/\ cap<=maxLen:=by
 rcases h.2 with⟨e,_⟩ | ⟨g',cap',cur,e,_,_,q1,q2,_⟩
 {cases e}
 {cases e;exact⟨q1,q2⟩}
attribute [local go_sem] Oh
theorem xH (d:List Fa)(fa:Fa)(f:Fo)(hw:Kj d f)(hsz:f.size<=100000)(v:Value)(W:World)(hf:f.In W W.heap.size v):
  Calls Tryz.prog 44 #[v,.agg #[.string fa.name,.int .i64 fa.kind,.int .i64 fa.lo,.int .i64 fa.hi]] W fun e W'=>∃u,e=.returned u/\ W'.ownsRow W.heap.size 3 1 u (Rn fa.name fa.lo fa.hi f).length ((Rn fa.name fa.lo fa.hi f).map iW)/\ Below W.heap.size W W':=by
 obtain⟨ao,cap,hv⟩:=hf.shape;subst hv;obtain⟨w0,hw0,hE,Kw,hb0,LY,qA⟩:=GI W f ao cap fa;have HI:=da (oP d W.heap.size w0 (W.heap.size+1) (W.heap.size+2) fa hE ia f.size f (ja _) hw _ [fa.lo] w0 Kw (Fo.In.below hb0 _ _ hf) (by simp;omega));have HE:=da hE;have Yi:=da hb0;have HW0:=da hw0;have k0:=qA.cell 0;have k1:=qA.cell 1;have k2:=qA.cell 2;have k3:=qA.cell 3;have k4:=qA.cell 4;have kf:=hE.fn.cell 0;have hnl:=Zu fa.name f;clear hf hE Kw hb0 qA;go_enter Tryz.func44,Tryz.ntmps44;go_upto_region 4 with(fail);rw[<-HW0.out];clear hw0 HW0;go_upto_region 5 with(go_at_call 92;refine HI.out.mono ?_;rintro e w1 ⟨rfl,Eo⟩;have Bp:=da Eo;clear Eo);have hs1:=Bp.out.size;obtain⟨vo,Hn,hown,E9⟩:=Bp.out.ord;have hzl:([fa.lo]++uh fa.name f).length<=300000:=by simp;omega
 obtain⟨g,Gw,rfl,hg,KA⟩:=hown.form la;have hgn:=FI Hn hown g rfl;have dX:=Bp.out.blk HE.out.fact ia ia;have hgf:=int_ne pa dX hown g rfl;have c1:w1.cell? ⟨W.heap.size+3,0,none⟩=_:=Hn.cell 0;have hz1:w1.frozen? ⟨W.heap.size+3,0,none⟩=false:=Hn.frozen 0
 have HST:Hid (Rn fa.name fa.lo fa.hi f=Lib.compact (((([fa.lo]++uh fa.name f)).mergeSort fun x y=>decide (x<=y)).filter fun n=> !(decide (n<fa.lo) || decide (fa.hi<n)))):=by{show _=_;rw[vJ];rfl}
 generalize[fa.lo]++uh fa.name f=zs at*
 have vq:=Yi.out.trans ((Bp.out.below ia).mono ia);have sE:=da (Tryz.slices_Sort_int g 0 Gw zs w1 (uo hown) KA ia);have RG:(zs.mergeSort fun x y=>decide (x<=y)).length=zs.length:=Kh _;have yu:=fun n os=>uE (Lib.ownsRow_putRow (q:=n) (ys:=zs.mergeSort fun x y=>decide (x<=y)) hown RG (ja _)) os
 generalize(zs.mergeSort fun x y=>decide (x<=y))=ys at*
 have hcap:=tJ hown;have Xw:=da Hn;have HFX:=da dX;have Ve:=da vq;have tE:=da yu;clear Hn hown E9 dX vq yu HI Bp k0 k1 k2 k3 k4 kf;go_upto_region 6 with(go_at_call 72;refine sE.out.mono ?_;rintro e w2 ⟨rfl,n2,os2,hw2⟩;have HW2:=da hw2;clear hw2);have hg2:w1.grownBy w2 (some g):=by rw[HW2.out];exact LA _ _
 have yu:w2.ownsRow (W.heap.size+2) 3 1 (.slice (some ⟨g,0,none⟩) zs.length Gw) zs.length (ys.map iW):=by{have q:=tE.out n2 os2;rw[Ac ia, <-HW2.out]at q;exact q}
 have kT:=Xw.out.grown hg2 (fun e=>hgn (by cases e;rfl));have RF:=HFX.out.grown hg2 (fun e=>hgf (by cases e;rfl));have Vd:=da (Ve.out.grown hg2 ia (fun k e=>by cases e;omega));have c2:w2.cell? ⟨W.heap.size+3,0,none⟩=_:=kT.cell 0;have hz2:w2.frozen? ⟨W.heap.size+3,0,none⟩=false:=kT.frozen 0;have eg:∀args w,(callFunc 94 args).run Tryz.prog w=.ok (.enter 94 args) w:=enters_of Tryz.func94 Ca rfl
 have XU:PredOver Tryz.prog 94 #[.pointer (some ⟨W.heap.size+1,0,none⟩)] (Value.int .i64) (fun n=>decide (n<fa.lo) || decide (fa.hi<n)) g 0 ys.toArray.size w2:=fun n os dk x _=>by{(have hh:∀j u,w2.cell? ⟨W.heap.size+1,j,none⟩=some u->(sortWorld (Value.int .i64) w2 g 0 n dk os).cell? ⟨W.heap.size+1,j,none⟩=some u:=fun j u h=>by{unfold sortWorld;rw[Sort.cell?_grow _ _ _ (by show W.heap.size+1<(Sort.putRow _ _ _ _ _).heap.size;rw[Sort.size_putRow];exact RF.lt),Sort.cell?_putRow_other _ _ g 0 _ _ (Or.inl (by show W.heap.size+1≠g;omega))];exact h});exact VB fa (W.heap.size+1) x _ (hh 2 _ (RF.cell 2)) (hh 3 _ (RF.cell 3))}
 have lT:=Tryz.slices_DeleteFunc (Value.int .i64) (fun _=>rfl) (fun n=>decide (n<fa.lo) || decide (fa.hi<n)) 94 #[.pointer (some ⟨W.heap.size+1,0,none⟩)] eg 0 Tryz.zeroValue3 g 0 Gw ys.toArray w2
  (fun W' x hb=>VB fa (W.heap.size+1) x W' ((hb.cell (p:=⟨W.heap.size+1,2,none⟩) RF.lt).trans (RF.cell 2)) ((hb.cell (p:=⟨W.heap.size+1,3,none⟩) RF.lt).trans (RF.cell 3))) XU (uo yu) (by simp;omega) (by simp;omega)
 rw[show ys.toArray.size=zs.length by simp[RG]]at lT;simp only at lT;have xV:=tf (fun n=> !(decide (n<fa.lo) || decide (fa.hi<n))) ys;generalize ys.filter (fun n=> !(decide (n<fa.lo) || decide (fa.hi<n)))=fl at*
 have abq:=da lT;have SF:=fun q=>Lib.ownsRow_putRow (q:=q) (ys:=fl++List.replicate (zs.length-fl.length) 0) (k:=fl.length) yu (by simp;omega) ia
 have D4:=da SF;have HV2:=da kT;clear lT SF yu kT RF XU eg HW2 sE tE hg2 c1 hz1;go_upto_region 7 with(go_at_call 93;refine abq.out.mono ?_;rintro e w3 ⟨rfl,n3,hw3⟩;have HW3:=da hw3;have hv3:Bb w3 (W.heap.size+2+1) 28 _:=HV2.out.grown (row:=some g) (by rw[hw3];exact Dp _) (fun e=>hgn (by cases e;rfl));have c3:w3.cell? ⟨W.heap.size+3,0,none⟩=_:=hv3.cell 0;have z3:w3.frozen? ⟨W.heap.size+3,0,none⟩=false:=hv3.frozen 0;clear hw3)
 have SF:w3.ownsRow (W.heap.size+2) 3 1 (.slice (some ⟨g,0,none⟩) fl.length Gw) fl.length (fl.map iW):=by{have q:=D4.out n3;rw[<-HW3.out,List.take_left]at q;exact q}
 have Qc:=da (Vd.out.grown (w':=w3) (row:=some g) (by rw[HW3.out];exact Dp _) (by have:=Vd.out.size;omega) (fun k e=>by cases e;omega));have Zn:=Kf SF ⟨W.heap.size+3,0,none⟩ (.slice (some ⟨g,0,none⟩) fl.length Gw) (fun g' e=>by cases e;show g≠W.heap.size+3;omega);have hB4:=Qc.out.setCell (p:=⟨W.heap.size+3,0,none⟩) (by show W.heap.size<=W.heap.size+3;omega) (.slice (some ⟨g,0,none⟩) fl.length Gw)
 have hs4:(w3.setCell ⟨W.heap.size+3,0,none⟩ (.slice (some ⟨g,0,none⟩) fl.length Gw)).cell? ⟨W.heap.size+3,0,none⟩=some (.slice (some ⟨g,0,none⟩) fl.length Gw):=by{rw[World.cell?_setCell_same' _ _ _ (by rw[c3];rfl)]}
 simp only[Nat.reduceAdd,Sg];generalize w3.setCell ⟨W.heap.size+3,0,none⟩ (.slice (some ⟨g,0,none⟩) fl.length Gw)=w4 at*
 have xJ:=da (Tryz.slices_Compact_int g 0 Gw fl w4 (uo Zn) ia ia);have hcl:=Lib.compact_length_le fl;have E4:=da (fun q=>Lib.ownsRow_putRow (q:=q) (ys:=Lib.compact fl++List.replicate (fl.length-(Lib.compact fl).length) 0) (k:=(Lib.compact fl).length) Zn (by simp;omega) ia);have Oe:=da hB4;clear SF Zn hB4 c3 z3 c2 hz2 HW3;go_wp2_with (go_at_call 73;refine xJ.out.mono ?_;rintro e w5 ⟨rfl,n5,sq⟩;have et:=da sq;clear sq);go_ret;refine⟨_,rfl,?_,?_⟩
 {rw[HST.out,et.out];have q:=E4.out n5;rw[List.take_left]at q;exact zu q ia}
 {exact Oe.out.grown (w':=w5) (row:=some g) (by rw[et.out];exact Dp _) (by have:=Oe.out.size;omega) (fun k e=>by cases e;omega)}
end
open Go.RowKit
mutual
def zk :Fo->List (ByteArray×Bool)->List (ByteArray×Bool)
 | .mk op s _ _ ks,l=>ML ks (if op=3 then ins l s true else l)
def ML :List Fo->List (ByteArray×Bool)->List (ByteArray×Bool)
 | [],l=>l
 | k::ks,l=>ML ks (zk k l)
end
theorem WB :∀(ks:List Fo) (l:List (ByteArray×Bool)),ML ks l=ks.foldl (fun l k=>zk k l) l
 | [],_=>rfl
 | k::ks,l=>by rw[ML,Ud,WB ks]
theorem F4.key :KeyLaw Value.string Tryz.prog 9:=VH Tryz.underlying9
structure BH (w0 : World) (mb : Nat) (l : List (ByteArray × Bool)) (W : World) : Prop where
 os:W.os=w0.os
 tape:W.tape=w0.tape
 output:W.output=w0.output
 size:w0.heap.size<=W.heap.size
 old:∀b,b<w0.heap.size->b≠mb->W.heap[b]? =w0.heap[b]?
 map:We Value.string Value.bool W mb l
theorem BH.below {w0 W:World}{mb B:Nat}{l:List (ByteArray×Bool)}(h:BH w0 mb l W)(hs:B<=w0.heap.size)(hm:B<=mb):Below B w0 W:=⟨h.os,h.tape,h.output,h.size,fun b hb=>h.old b ia ia⟩
theorem BH.more {w0 W W':World}{mb:Nat}{l:List (ByteArray×Bool)}(h:BH w0 mb l W)(hb:Below W.heap.size W W'):BH w0 mb l W':=
 ⟨hb.os.trans h.os,hb.tape.trans h.tape,hb.output.trans h.output,Wa h.size hb.size,fun b q1 q2=>(hb.block b (by have:=h.size;omega)).trans (h.old b q1 q2),h.map.below hb h.map.lt⟩
theorem BH.upd {w0 W W':World}{mb:Nat}{l l':List (ByteArray×Bool)}(h:BH w0 mb l W)(hu:kA mb W W')(hm:We Value.string Value.bool W' mb l'):BH w0 mb l' W':=
 ⟨hu.os.trans h.os,hu.tape.trans h.tape,hu.output.trans h.output,by rw[hu.size];exact h.size,fun b q1 q2=>(hu.block b q2).trans (h.old b q1 q2),hm⟩
abbrev fX (B:Nat)(w0:World)(mb:Nat)(f:Fo):Prop:=
 ∀(v:Value) (l:List (ByteArray×Bool)) (W:World),BH w0 mb l W->f.In w0 B v->
  Calls Tryz.prog 38 #[v,.map (some mb)] W fun e W'=>e=.returned (.map (some mb))/\ BH w0 mb (zk f l) W'
theorem pP (B:Nat)(w0:World)(mb:Nat)(hB:B<=mb)(TB:B<=w0.heap.size)(op c n:Int)(s:ByteArray)(ks:List Fo)(IH:∀k∈ks,fX B w0 mb k):fX B w0 mb (.mk op s c n ks):=by
 intro v l W hS hf;obtain⟨ao,cap,rfl,w1,w2,w3,w4,k1,k2,hk⟩:=hf;have hsz:=hS.size;have HK:=da hk;have Gt:=da IH;unfold maxLen at k2;have Eo:=hS.more ((za _ _).alloc (ja _) (.cells #[.int .i64 op,.string s,.int .i64 c,.int .i64 n,.slice ao ks.length cap] 24));have hx1:=Bb.new W 24 #[.int .i64 op,.string s,.int .i64 c,.int .i64 n,.slice ao ks.length cap];have hmW:=hS.map.lt;obtain⟨W2,RA,hm2,lu⟩:=run_store F4.key Tryz.underlying63 Eo.map s true;have hx2:=(lu.block W.heap.size ia).trans hx1;have y4:=Bb.cell hx2 4;have xL:Hid (BH w0 mb ((ks.take 0).foldl (fun l k=>zk k l) (ins l s true)) W2):=Eo.upd lu hm2;have Bp:Hid (BH w0 mb ((ks.take 0).foldl (fun l k=>zk k l) l) (W.alloc (.cells #[.int .i64 op,.string s,.int .i64 c,.int .i64 n,.slice ao ks.length cap] 24))):=Eo;have HT:=da (show zk (.mk op s c n ks) l=ks.foldl (fun l k=>zk k l) (if op=3 then ins l s true else l) by rw[zk,WB]);have qm:W.heap.size<W2.heap.size:=by rw[lu.size];simp
 generalize zk (.mk op s c n ks) l=TF at*
 clear hk IH hS Eo hx1 hx2 hm2 lu;by_cases h3:op=3
 ·have Lc:(op==3)=true:=by rw[h3];rfl
  have Kt:=da (show TF=ks.foldl (fun l k=>zk k l) (ins l s true) by rw[HT.out,if_pos h3]);generalize ins l s true=l0 at*
  clear h3 HT Bp;go_enter Tryz.func38,Tryz.ntmps38;go_wp2
  go_loopw [16] (fun iv wr=>∃(j:Nat),j<=ks.length/\ iv=.int .i64 j/\ Hid (BH w0 mb ((ks.take j).foldl (fun l k=>zk k l) l0) wr)) (fun iv _=>ks.length-(intOf iv).toNat)
  case atStart=>exact⟨0,ia,rfl,xL⟩
  case round=>
   obtain⟨j,hj,rfl,hJ⟩:=hrel;clear xL;by_cases hlt:j<ks.length
   ·obtain⟨kb,off,rfl,Ou,hL⟩:=HK.out (by intro e;rw[e]at hlt;simp at hlt)
    have Zd:=hJ.out.below TB hB;have hsJ:=hJ.out.size;obtain⟨ka,kc,c0,c1,c2,c3,c4,Oq⟩:=Fo.Qk.get ks off j hlt hL;have d0:=(Zd.cell (p:=⟨kb,off+j*5,none⟩) Ou).trans c0;have d1:=(Zd.cell (p:=⟨kb,off+j*5+1,none⟩) Ou).trans c1;have d2:=(Zd.cell (p:=⟨kb,off+j*5+2,none⟩) Ou).trans c2;have d3:=(Zd.cell (p:=⟨kb,off+j*5+3,none⟩) Ou).trans c3;have d4:=(Zd.cell (p:=⟨kb,off+j*5+4,none⟩) Ou).trans c4;have HI:=da (Gt.out ks[j] (Ga _) _ _ _ (hJ.out.more ((za wr.heap.size wr).alloc (ja _) (.cells #[.int .i64 ks[j].op,.string ks[j].name,.int .i64 ks[j].cmp,.int .i64 ks[j].n,.slice ka ks[j].kids.length kc] 24))) Oq)
    have Rv:=da (show(ks.take (j+1)).foldl (fun l k=>zk k l) l0=zk ks[j] ((ks.take j).foldl (fun l k=>zk k l) l0) by
     rw[Ka hlt,Od];rfl)
    have YH:kb<wr.heap.size:=by omega
    clear Oq hL Zd hJ c0 c1 c2 c3 c4;go_wp2_with (go_at_call 38;refine HI.out.mono ?_;rintro e w5 ⟨rfl,h5⟩;have H5:=da h5;clear h5);go_roundw
    case rel=>exact⟨j+1,ia,by go_num,by rw[Rv.out];exact H5⟩
    case measure=>simp[intOf];omega
   {(obtain rfl:j=ks.length:=ia);have q:=hJ.out;rw[Jb]at q;have HQ:=da q;clear q hJ;go_wp2;go_ret;rw[Kt.out];exact⟨rfl,HQ.out⟩}
 ·have Lc:(op==3)=false:=by simpa using h3
  have Kt:=da (show TF=ks.foldl (fun l k=>zk k l) l by rw[HT.out,Aa h3]);clear h3 HT xL RA y4 qm;go_enter Tryz.func38,Tryz.ntmps38;go_wp2
  go_loopw [16] (fun iv wr=>∃(j:Nat),j<=ks.length/\ iv=.int .i64 j/\ Hid (BH w0 mb ((ks.take j).foldl (fun l k=>zk k l) l) wr)) (fun iv _=>ks.length-(intOf iv).toNat)
  case atStart=>exact⟨0,ia,rfl,Bp⟩
  case round=>
   obtain⟨j,hj,rfl,hJ⟩:=hrel;clear Bp;by_cases hlt:j<ks.length
   ·obtain⟨kb,off,rfl,Ou,hL⟩:=HK.out (by intro e;rw[e]at hlt;simp at hlt)
    have Zd:=hJ.out.below TB hB;have hsJ:=hJ.out.size;obtain⟨ka,kc,c0,c1,c2,c3,c4,Oq⟩:=Fo.Qk.get ks off j hlt hL;have d0:=(Zd.cell (p:=⟨kb,off+j*5,none⟩) Ou).trans c0;have d1:=(Zd.cell (p:=⟨kb,off+j*5+1,none⟩) Ou).trans c1;have d2:=(Zd.cell (p:=⟨kb,off+j*5+2,none⟩) Ou).trans c2;have d3:=(Zd.cell (p:=⟨kb,off+j*5+3,none⟩) Ou).trans c3;have d4:=(Zd.cell (p:=⟨kb,off+j*5+4,none⟩) Ou).trans c4;have HI:=da (Gt.out ks[j] (Ga _) _ _ _ (hJ.out.more ((za wr.heap.size wr).alloc (ja _) (.cells #[.int .i64 ks[j].op,.string ks[j].name,.int .i64 ks[j].cmp,.int .i64 ks[j].n,.slice ka ks[j].kids.length kc] 24))) Oq)
    have Rv:=da (show(ks.take (j+1)).foldl (fun l k=>zk k l) l=zk ks[j] ((ks.take j).foldl (fun l k=>zk k l) l) by
     rw[Ka hlt,Od];rfl)
    have YH:kb<wr.heap.size:=by omega
    clear Oq hL Zd hJ c0 c1 c2 c3 c4;go_wp2_with (go_at_call 38;refine HI.out.mono ?_;rintro e w5 ⟨rfl,h5⟩;have H5:=da h5;clear h5);go_roundw
    case rel=>exact⟨j+1,ia,by go_num,by rw[Rv.out];exact H5⟩
    case measure=>simp[intOf];omega
   {(obtain rfl:j=ks.length:=ia);have q:=hJ.out;rw[Jb]at q;have HQ:=da q;clear q hJ;go_wp2;go_ret;rw[Kt.out];exact⟨rfl,HQ.out⟩}
theorem YR (_d:List Fa)(B:Nat)(w0:World)(mb:Nat)(hB:B<=mb)(TB:B<=w0.heap.size):∀(N:Nat) (f:Fo),f.size<=N->fX B w0 mb f:=by
 intro N
 induction N with| zero=>intro f h;obtain⟨op,s,c,n,ks⟩:=f;rw[Fo.size]at h;omega| succ N ih=>{intro f h;obtain⟨op,s,c,n,ks⟩:=f;have hk:=Ak op c n s ks;exact pP B w0 mb hB TB op c n s ks (fun k hm=>ih k (by have:=hk k hm;omega))}
section
theorem UF {ν:Type}(k:ByteArray)(v:ν)(j:ByteArray):∀l:List (ByteArray×ν),(ins l k v).lookup j=if j=k then some v else l.lookup j
 | []=>by{rw[ins,Db,List.lookup_nil];by_cases h:j=k;{subst h;simp};{(have:(j==k)=false:=by simpa using h);rw[this,Aa h]}}
 | (a,x)::l=>by{rw[ins];by_cases hk:k=a;{subst hk;rw[if_pos la,Db,Db];by_cases h:j=k;{subst h;simp};{(have:(j==k)=false:=by simpa using h);rw[this,Aa h]}};{(have hka:(k==a)=false:=by simpa using hk);rw[hka,Aa la,Db,Db,UF k v j l];by_cases h:j=a;{subst h;(have hjk:¬j=k:=fun e=>hk e.symm);simp[hjk]};{(have:(j==a)=false:=by simpa using h);rw[this]}}}
structure sN (w0 : World) (K DB : Nat) (d : List Fa) (fv : Value) : Prop where
 mv:Bb w0 (K+1) 65 #[.pointer (some ⟨K,0,none⟩)]
 dv:Bb w0 (K+3) 66 #[.map (some (K+2))]
 fb:Bb w0 (K+4) 4 #[.bool false]
 gv:Bb w0 (K+5) 71 #[.func (.func 39) #[] #[.pointer (some ⟨K+1,0,none⟩),.pointer (some ⟨K+4,0,none⟩),.pointer (some ⟨DB,0,none⟩),.pointer (some ⟨K+3,0,none⟩),.pointer (some ⟨K+5,0,none⟩)]]
 db:Bb w0 DB 27 #[fv]
 lt:DB<K
 dom:Xa Iw 4 w0 K d fv
 Nx:tm K w0
 size:K+6<=w0.heap.size
structure vp (w0 : World) (K : Nat) (S : List Nat) (m : List Dn) (dn : List (ByteArray × Nat)) (W : World) : Prop where
 iq:ld K [] w0 W
 is:Pj W K K S m
 own:W.cell? ⟨K,1,none⟩≠some (.map (some (K+2)))
 Cj:∃mp,We Value.string (Value.int .i64) W (K+2) mp/\ ∀k,mp.lookup k=(dn.lookup k).map (fun(n:Nat)=>(n:Int))
variable {w0 W W' : World} {K DB : Nat} {S S' : List Nat} {d : List Fa} {fv : Value} {m m' : List Dn} {dn : List (ByteArray × Nat)}
theorem vp.blk (h:vp w0 K S m dn W){b:Nat}{t:TypeId}{cs:Array Value}(hb:Bb w0 b t cs)(ht:(t==56)=false/\ (t==70)=false):Bb W b t cs:=
 h.iq.keep b _ hb (.inr ⟨by simp[gi,ht.1,ht.2],la⟩)
theorem vp.size (h:vp w0 K S m dn W):w0.heap.size<=W.heap.size:=h.iq.size
theorem vp.lt (h:vp w0 K S m dn W):K<W.heap.size:=by obtain⟨_,⟨v,mo,xs,h1,_⟩,_⟩:=h.is;exact h1.lt
theorem vp.step (h:vp w0 K S m dn W)(hs:Vx K K W W')(hm:Pj W' K K S m'):vp w0 K S m' dn W':=by
 obtain⟨mp,⟨es,c,h1,h2⟩,h3⟩:=h.Cj;obtain⟨q1,q2⟩:=hs.k (K+2) es c h1 h.own;exact⟨h.iq.trans hs.s,hm,q2,mp,⟨es,c,q1,h2⟩,h3⟩
theorem vp.below (h:vp w0 K S m dn W)(hb:Below W.heap.size W W'):vp w0 K S m dn W':=
 h.step (Vx.Vb hb h.lt) (h.is.below hb (ja _))
theorem vp.less (h:vp w0 K S m dn W)(hs:∀k∈S',k∈S):vp w0 K S' m dn W:=⟨h.iq,h.is.less hs,h.own,h.Cj⟩
theorem vp.jN (h:vp w0 K S m dn W){mp:List (ByteArray×Int)}(kE:∀k,mp.lookup k=(dn.lookup k).map (fun(n:Nat)=>(n:Int))){key:ByteArray}{n:Nat}(hu:kA (K+2) W W')(hm:We Value.string (Value.int .i64) W' (K+2) (ins mp key (n:Int)))
  (hk0:We Value.string (Value.int .i64) W (K+2) mp):vp w0 K S m ((key,n)::dn) W'/\ ld K [] W W':=by
 have nN:=pF hk0;have hs:ld K [] W W':=ld.rH hu ⟨ia,.inr nN⟩;have B8:ld K S W W':=hs.more la;obtain⟨hge,⟨v,mo,xs,h1,h2,h3,h4,h5⟩,hlen⟩:=h.is;have hne:K≠K+2:=by omega
 have hb':Bb W' K 70 #[v,.map mo]:=(hu.block K hne).trans h1;refine⟨⟨h.iq.trans hs,⟨hge,⟨v,mo,xs,hb',xi h2 (fun g hg=>hu.block g ?_),h3,fun x hx=>(h4 x hx).step B8,?_⟩,hlen⟩,?_,_,hm,?_⟩,hs⟩
 {rintro rfl;(rcases h2.2 with⟨rfl,_⟩ | ⟨g',cap,cur,rfl,_,LV,_⟩);{cases hg};{(have:g'=K+2:=by simpa[Value.ownBlock]using hg);subst this;exact yv hk0 LV rfl}}
 {(rcases h5 with h5 | ⟨ab,e1,e2,e3⟩);{exact .inl h5};{refine .inr ⟨ab,e1,e2,?_⟩;obtain⟨es,c,q1,q2⟩:=e3;refine⟨es,c,(hu.block ab ?_).trans q1,q2⟩;rintro rfl;exact h.own (by rw[h1.cell 1,e1];rfl)}}
 {rw[hu.cell (p:=⟨K,1,none⟩) hne];exact h.own}
 {intro k;rw[UF,Db];by_cases hk:k=key;{subst hk;simp};{(have:(k==key)=false:=by simpa using hk);rw[this,Aa hk];exact kE k}}
def xe (v:Value):List Nat:=v.ownBlock.toList
theorem Ie {W:World}{base e size n:Nat}{v:Value}{xs:List Value}(h:W.ownsRow base e size v n xs):∀g,v.ownBlock=some g->base<=g/\ ∃cs,W.heap[g]? =some (.cells cs e (0,0)):=by
 intro g hg;rcases h.2 with⟨rfl,_⟩ | ⟨g',cap,cur,rfl,h1,h2,_⟩
 {simp[Value.ownBlock]at hg}
 {(have:g'=g:=by simpa[Value.ownBlock]using hg);subst this;exact⟨h1,cur,h2⟩}
theorem yk {base e size n:Nat}{v:Value}{xs:List Value}(h:W.ownsRow base e size v n xs)(hs:ld K S W W')(ht:(e==56)=false/\ (e==70)=false)(hS:∀g,v.ownBlock=some g->g∉S):W'.ownsRow base e size v n xs:=
 xi h fun g hg=>by{obtain⟨_,cs,h1⟩:=Ie h g hg;rw[h1];exact hs.keep g _ h1 (.inr ⟨by simp[gi,ht.1,ht.2],hS g hg⟩)}
theorem vp.Lu {base n:Nat}{kv v':Value}{xs:List Value}(h:vp w0 K (xe kv++S) m dn W)(hK:K+6<=w0.heap.size)(ho:W.ownsRow base 3 1 kv n xs)(hb:w0.heap.size<=base)(hg:W.grownBy W' kv.ownBlock){g:Nat}(hv:v'.ownBlock=some g)(hat:kv.ownBlock=some g\/g=W.heap.size):
  vp w0 K (xe v'++S) m dn W'/\ ld K (xe kv) W W':=by
 have hown:=Ie ho;have hs1:ld K (xe kv) W W':=ld.Ej hg fun b e=>⟨by have:=(hown b e).1;omega,.inl (by unfold xe;rw[e];simp)⟩
 have hk:∀b o,W.heap[b]? =some o->gi o=false->b<W.heap.size->W'.heap[b]? =some o:=fun b o h1 h2 h3=>by{refine(hg.block b h3 fun e=>?_).trans h1;obtain⟨_,cs,h4⟩:=hown b e.symm;rw[h1]at h4;(cases h4);simp[gi]at h2}
 have VM:xe v'=[g]:=by unfold xe;rw[hv];rfl
 refine⟨⟨?_,?_,?_,?_⟩,hs1⟩
 {(refine((h.iq.more (S':=xe kv) la).trans hs1).less fun b hb' hlt=>?_);(have e:kv.ownBlock=some b:=by unfold xe at hb';simpa using hb');have:=(hown b e).1;omega}
 {rw[VM];(rcases hat with e | e);{(have:xe kv=[g]:=by unfold xe;rw[e];rfl);rw[<-this];exact h.is.keep (hs1.more fun b hb=>Cd _ hb) hk};{(refine(h.is.fresh (k:=g) ia (hs1.more fun b hb=>Cd _ hb) hk).less fun k hk=>?_);(rcases List.mem_append.1 hk with hk | hk);{simp at hk;simp[hk]};{simp[hk]}}}
 {(have:W'.heap[K]? =W.heap[K]? :=hg.block K h.lt fun e=>by have:=(hown K e.symm).1;omega);rw[World.cell?_of_block (a:=⟨K,1,none⟩) this];exact h.own}
 {obtain⟨mp,⟨es,c,h1,h2⟩,h3⟩:=h.Cj;exact⟨mp,⟨es,c,hk _ _ h1 rfl (je h1),h2⟩,h3⟩}
theorem OE {W:World}{b:Nat}{t:TypeId}{v:Value}(h:Bb W b t #[v]):W.setCell ⟨b,0,none⟩ v=W:=by
 have e:(W.setCell ⟨b,0,none⟩ v).heap=W.heap:=by{apply Array.ext_getElem?;intro i;by_cases hi:i=b;{subst hi;rw[heap_setCell_same W i 0 _ _ v h,show W.heap[i]? =_ from h];rfl};{exact heap_setCell_other W ⟨b,0,none⟩ i v hi}}
 show({W with heap:=(W.setCell ⟨b,0,none⟩ v).heap}:World)=W
 rw[e]
theorem xU {H:Nat}{f:Fo}{v:Value}(hf:f.bk W (Hs W H S) v)(hs:ld H S W W'):f.bk W' (Hs W' H S) v:=Fo.bk.step (fun _ h=>h.heap hs) (fun _ h=>h.step hs) _ _ hf
theorem SV {H:Nat}{f:Fo}{v:Value}(hf:f.bk W (Hs W H S) v)(hs:∀b∈S',b∈S\/W.heap.size<=b):f.bk W (Hs W H S') v:=Fo.bk.step (fun _ _=>rfl) (fun b h=>⟨h.1,h.2.imp id fun hc=>⟨fun e=>(hs b e).elim hc.1 (fun q=>by have:=h.1;omega),hc.2⟩⟩) _ _ hf
theorem zU {H:Nat}{f:Fo}{v:Value}(hS:∀b∈S,b<W.heap.size)(hb:Below W.heap.size W W')(hf:f.bk W' (PN (Hs W H S) W W') v):f.bk W' (Hs W' H S) v:=
 Fo.bk.step (fun _ _=>rfl) (fun b h=>by
  rcases h with h | ⟨hge,cs,h⟩
  {exact h.step (ld.Vb hb (ja _))}
  ·exact⟨je h,.inr ⟨fun e=>by have:=hS b e;omega,_,h,rfl⟩⟩) _ _ hf
end
theorem zN {w0:World}{K DB:Nat}{S:List Nat}{d:List Fa}{fv:Value}(hE:sN w0 K DB d fv)(i:Nat)(s:Fo)(bl:Bool)(hc:Wl s=some bl)(m:List Dn)(dn:List (ByteArray×Nat))(hl:m.length<=900000)(v:Value)(W:World)
  (hS:vp w0 K S m dn W) (hf:s.bk W (Hs W K S) v):
  Calls Tryz.prog 39 #[v,.int .i64 i,.pointer (some ⟨K+1,0,none⟩),.pointer (some ⟨K+4,0,none⟩),.pointer (some ⟨DB,0,none⟩),.pointer (some ⟨K+3,0,none⟩),.pointer (some ⟨K+5,0,none⟩)] W fun e W'=>e=.returned (.int .i64 (Md m ⟨0,[],[],bl⟩).2)/\ vp w0 K S (Md m ⟨0,[],[],bl⟩).1 dn W'/\ ld K [] W W':=by
 obtain⟨ao,cap,rfl,_⟩:=hf.shape;have hsz:=hS.size;have NZ:=hE.size;have Eo:=hS.below ((za _ _).alloc (ja _) (.cells #[.int .i64 s.op,.string s.name,.int .i64 s.cmp,.int .i64 s.n,.slice ao s.kids.length cap] 24))
 have H_:(s.op==1)=bl/\ (s.op==2)= !bl:=by{unfold Wl at hc;by_cases h1:s.op=1;{rw[if_pos h1]at hc;cases hc;rw[h1];exact⟨rfl,rfl⟩};{rw[Aa h1]at hc;by_cases h2:s.op=2;{rw[if_pos h2]at hc;cases hc;rw[h2];exact⟨rfl,rfl⟩};{rw[Aa h2]at hc;cases hc}}}
 obtain⟨e1,e2⟩:=H_;have qJ:=(Eo.blk hE.mv ⟨pa,pa⟩).cell 0;have HN:=da (Qt K K S m ⟨0,[],[],bl⟩ (.slice none 0 0) (.slice none 0 0) _ Eo.is (Me.nil _ _ _) (Me.nil _ _ _) hl ⟨⟨by show(-9223372036854775808:Int)<=0;decide,by show(0:Int)<=9223372036854775807;decide⟩,la,la,la,la⟩ (hE.Nx.on (Eo.iq.below ia)));have Bp:=da Eo;have hK1:K+1<W.heap.size:=by omega
 clear hS hf Eo hE hc;generalize(Md m ⟨0,[],[],bl⟩).2=r2 at*
 generalize(Md m ⟨0,[],[],bl⟩).1=r1 at*
 cases bl
 all_goals
  go_enter Tryz.func39,Tryz.ntmps39;go_wp2_with (go_at_call 40;refine HN.out.mono ?_;rintro e w2 ⟨rfl,h2,h3⟩;have H2:=da (Bp.out.step h3 h2);have HM:=da ((ld.Vb (H:=K) (S:=[]) ((za W.heap.size W).alloc (ja _) (.cells #[.int .i64 s.op,.string s.name,.int .i64 s.cmp,.int .i64 s.n,.slice ao s.kids.length cap] 24)) (ja _)).trans h3.s);clear h2 h3);go_ret;exact⟨rfl,H2.out,HM.out⟩
open Go.Sort (grow)
theorem CJ (W:World):RM W.heap.size W.heap.size [] (W.alloc (.cells #[.pointer none,.slice none 0 0] 76)):=
 .inl ⟨ja _,.slice none 0 0,World.alloc_heap_new W _,⟨by simp[Lib.byteCells],.inl ⟨rfl,rfl⟩⟩,by simp[Value.ownBlock]⟩
theorem BN {w0:World}{K DB:Nat}{S:List Nat}{d:List Fa}{fv:Value}(hE:sN w0 K DB d fv)(i:Nat)(hi:i<d.length)(hdl:d.length<=60)(s:Fo)(hc:Wl s=none)(hw:Kj d s)(tN:(Wf s).length<=1000000)(m:List Dn)(dn:List (ByteArray×Nat))(hl:m.length<=20000)(k:Nat)(hk:dn.lookup (il i s)=some k)(v:Value)(W:World)
  (hS:vp w0 K S m dn W) (hf:s.bk W (Hs W K S) v):
  Calls Tryz.prog 39 #[v,.int .i64 i,.pointer (some ⟨K+1,0,none⟩),.pointer (some ⟨K+4,0,none⟩),.pointer (some ⟨DB,0,none⟩),.pointer (some ⟨K+3,0,none⟩),.pointer (some ⟨K+5,0,none⟩)] W fun e W'=>e=.returned (.int .i64 k)/\ vp w0 K S m dn W'/\ ld K [] W W':=by
 obtain⟨ao,cap,hv,_⟩:=hf.shape;subst hv;have hsz:=hS.size;have NZ:=hE.size;have Eo:=hS.below ((za _ _).alloc (ja _) (.cells #[.int .i64 s.op,.string s.name,.int .i64 s.cmp,.int .i64 s.n,.slice ao s.kids.length cap] 24));obtain⟨n1,n2⟩:=iy.1 hc;have e1:(s.op==1)=false:=by simpa using n1
 have e2:(s.op==2)=false:=by simpa using n2
 have qJ:=(Eo.blk hE.mv ⟨pa,pa⟩).cell 0;have KC:=Eo.blk hE.fb ⟨pa,pa⟩;have NG:=KC.cell 0;have vN:=KC.frozen 0;obtain⟨ad,cd,PY,_⟩:=Xa.shape hE.dom;have dN:=(Eo.blk hE.db ⟨pa,pa⟩).cell 0;rw[PY]at dN;obtain⟨_,⟨mv,mo,xs,g1,g2,g3,_⟩,_⟩:=Eo.is;obtain⟨ma,mc,kH⟩:=Wd g2;have xq:xs.length=m.length:=by rw[<-g3,Sa]
 subst kH;have QG:=g1.cell 0;rw[xq]at QG;have x_:((i:Int)==(d.length:Int))=false:=by simp;omega
 have hKb:=hE.lt;have hd:decide ((20000:Int)<(m.length:Int))=false:=by simp;omega
 have Uj:=OE KC;have PE:=da Uj;have hin:s.In ((W.alloc (.cells #[.int .i64 s.op,.string s.name,.int .i64 s.cmp,.int .i64 s.n,.slice ao s.kids.length cap] 24)).alloc (.cells #[.pointer none,.slice none 0 0] 76)) (W.alloc (.cells #[.int .i64 s.op,.string s.name,.int .i64 s.cmp,.int .i64 s.n,.slice ao s.kids.length cap] 24)).heap.size (.agg #[.int .i64 s.op,.string s.name,.int .i64 s.cmp,.int .i64 s.n,.slice ao s.kids.length cap]):=Fo.In.mono la s _ (Fo.In.below (((za W.heap.size W).alloc (ja _) _).alloc la _) s _ (Fo.bk.back (B:=W.heap.size) (fun b h=>h.1) _ _ hf));have hsp:=(XA d (W.alloc (.cells #[.int .i64 s.op,.string s.name,.int .i64 s.cmp,.int .i64 s.n,.slice ao s.kids.length cap] 24)).heap.size (W.alloc (.cells #[.int .i64 s.op,.string s.name,.int .i64 s.cmp,.int .i64 s.n,.slice ao s.kids.length cap] 24)).heap.size s.size s (ja _) hw (.agg #[.int .i64 s.op,.string s.name,.int .i64 s.cmp,.int .i64 s.n,.slice ao s.kids.length cap]) [] ((W.alloc (.cells #[.int .i64 s.op,.string s.name,.int .i64 s.cmp,.int .i64 s.n,.slice ao s.kids.length cap] 24)).alloc (.cells #[.pointer none,.slice none 0 0] 76)) hin (CJ _) (fun w' hb=>hE.Nx w' ((Eo.iq.below ia).trans (((za _ _).alloc (by simp;omega) _).trans (hb.mono (by simp;omega))))) la (by simp;omega));rw[Ba]at hsp;have G0:=da hsp;have Bp:=da Eo;have HE:=da hE;have x0:=((Bb.new W 24 #[.int .i64 s.op,.string s.name,.int .i64 s.cmp,.int .i64 s.n,.slice ao s.kids.length cap]).alloc (.cells #[.pointer none,.slice none 0 0] 76)).cell 0;have x1:=((Bb.new W 24 #[.int .i64 s.op,.string s.name,.int .i64 s.cmp,.int .i64 s.n,.slice ao s.kids.length cap]).alloc (.cells #[.pointer none,.slice none 0 0] 76)).cell 1;have x2:=((Bb.new W 24 #[.int .i64 s.op,.string s.name,.int .i64 s.cmp,.int .i64 s.n,.slice ao s.kids.length cap]).alloc (.cells #[.pointer none,.slice none 0 0] 76)).cell 2;have x3:=((Bb.new W 24 #[.int .i64 s.op,.string s.name,.int .i64 s.cmp,.int .i64 s.n,.slice ao s.kids.length cap]).alloc (.cells #[.pointer none,.slice none 0 0] 76)).cell 3;have x4:=((Bb.new W 24 #[.int .i64 s.op,.string s.name,.int .i64 s.cmp,.int .i64 s.n,.slice ao s.kids.length cap]).alloc (.cells #[.pointer none,.slice none 0 0] 76)).cell 4;have nR:K+6<=W.heap.size:=by omega
 clear hsp hS hf Eo hE hc n1 n2 KC g1 g2 g3 Uj hin PY xq hw;go_enter Tryz.func39,Tryz.ntmps39;go_upto_region 4 with(fail)
 try simp only[hd]
 rw[PE.out];go_upto_region 7 with(fail);clear qJ NG vN dN QG;go_upto_region 8 with(go_at_call 41;refine G0.out.mono ?_;rintro e w3 ⟨rfl,h1,h2,h3⟩;have H3:=da h1;have Qc:=da h2;clear h1 h2 h3);have vq:Below (W.alloc (.cells #[.int .i64 s.op,.string s.name,.int .i64 s.cmp,.int .i64 s.n,.slice ao s.kids.length cap] 24)).heap.size (W.alloc (.cells #[.int .i64 s.op,.string s.name,.int .i64 s.cmp,.int .i64 s.n,.slice ao s.kids.length cap] 24)) w3:=((za _ _).alloc (ja _) _).trans (by rw[Ba];exact Qc.out);have WD:=da (Bp.out.below vq);have XG:W.heap.size+2<=w3.heap.size:=by have:=Qc.out.size;simpa using this
 have I0:Hid (Calls Tryz.prog 42 #[.int .i64 (i:Int)] w3 fun e w'=>∃sI:ByteArray,e=.returned (.string sI)/\ sI.size<=21/\ Hid (sI=⟨(Lib.itoa (i:Int)).toArray⟩)/\ Hid (Below w3.heap.size w3 w')):=by{refine(Tryz.strconv_Itoa (i:Int) ia ia w3 ((HE.out.Nx.on (WD.out.iq.below ia)).here)).mono ?_;rintro e w' ⟨rfl,nq,os,rfl⟩;refine⟨_,rfl,?_,rfl,Us w3 nq os⟩;have:=Lib.itoa_length_le (i:Int) ia ia;simpa[ByteArray.size]using this}
 have xN:Hid (∀w4,Below w3.heap.size w3 w4->Calls Tryz.prog 43 #[.pointer (some ⟨W.heap.size+1,0,none⟩)] w4 fun e w'=>∃sT:ByteArray,e=.returned (.string sT)/\ sT.size<=1000000/\ Hid (sT=⟨(Wf s).toArray⟩)/\ Hid (Below (W.heap.size+1) w4 w')):=fun w4 hb=>by{have En:=Ho H3.out hb;rw[Ya]at En;have q:=Tryz.Builder_String_any_k (W.heap.size+1) (W.heap.size+1) (Wf s) w4 En (by have:=hb.size;omega);refine q.mono ?_;rintro e w' ⟨rfl,_,h2,_⟩;exact⟨_,rfl,by simpa[ByteArray.size]using tN,rfl,h2⟩}
 clear G0 PE tN hdl;go_upto_region 9 with(first | (go_at_call 42;refine I0.out.mono ?_;rintro e w4 ⟨sI,rfl,hsI,G8,Oe⟩) | (go_at_call 43;refine(xN.out _ Oe.out).mono ?_;rintro e w5 ⟨sT,rfl,hsT,I8,Jf⟩));have fe:Below (W.alloc (.cells #[.int .i64 s.op,.string s.name,.int .i64 s.cmp,.int .i64 s.n,.slice ao s.kids.length cap] 24)).heap.size (W.alloc (.cells #[.int .i64 s.op,.string s.name,.int .i64 s.cmp,.int .i64 s.n,.slice ao s.kids.length cap] 24)) w5:=(vq.trans (Oe.out.mono (by rw[Ba];omega))).trans (by rw[Ba];exact Jf.out);have WR:=Bp.out.below fe;have T7:=(WR.blk HE.out.dv ⟨pa,pa⟩).cell 0;obtain⟨mp,hm,kE⟩:=WR.Cj;have hlk:=Sn QE.key Tryz.underlying66 Dr hm (sI++sT);have hkey:sI++sT=il i s:=by rw[G8.out,I8.out,ByteArray.mk_append_mk];rfl
 have hv:mp.lookup (sI++sT)=some (k:Int):=by rw[kE,hkey,hk];rfl
 rw[hv]at hlk;have yU:=da WR;have Ph:=da ((ld.Vb (H:=K) (S:=[]) ((za W.heap.size W).alloc (ja _) (.cells #[.int .i64 s.op,.string s.name,.int .i64 s.cmp,.int .i64 s.n,.slice ao s.kids.length cap] 24)) (ja _)).trans (ld.Vb fe (ja _)));clear WR hm kE hv hkey fe vq xN I0 x0 x1 x2 x3 x4;go_wp2;go_ret;exact⟨rfl,yU.out,Ph.out⟩
end Go.Proofs.YtejbgoigkefnfaaGreatDoor
