/- The walk of Build's recursion: a text that the memo knows. Bounds on the table. -/
import Derived.Test.YtihniipjfdenbaaGreatDoorDgSN
import Derived.Test.YtihniipjfdenbaaGreatDoorShelfC
import Derived.Lib.OwnBridge
set_option maxRecDepth 100000
set_option maxHeartbeats 4000000
namespace Go.Proofs.YtihniipjfdenbaaGreatDoor
section
open Go.RowKit
open Go.Sort (grow)
theorem compD_range (z:List Int):∀(l pre:List Int) (a:Int),z=pre++a::l->(((List.range' (pre.length+1) l.length).filter (Lib.keeps z.toArray)).map (z.toArray[·]!))=compD a l
 | [],pre,a,_=>by simp[compD]
 | b::l,pre,a,hz=>by{have ih:=compD_range z l (pre++[a]) b (by rw[hz];simp);(have hl:(pre++[a]).length=pre.length+1:=by simp);rw[hl]at ih;have g0:z.toArray[pre.length]! =a:=by{rw[hz,getElem!_pos _ _ (by simp)];simp};have g1:z.toArray[pre.length+1]! =b:=by{rw[hz,getElem!_pos _ _ (by simp)];simp[List.getElem_append_right]};have hk:Lib.keeps z.toArray (pre.length+1)= !decide (b=a):=by{unfold Lib.keeps;simp only[Nat.add_sub_cancel,g0,g1];by_cases h:b=a<;>simp[h]};rw[List.length_cons,List.range'_succ,List.filter_cons,hk,compD];by_cases h:b=a;{subst h;simpa using ih};{simp only[h,decide_false,Bool.not_false,if_true,if_false,List.map_cons,g1,ih]}}
theorem comp_eq (z:List Int):Lib.compact z=compL z:=by
 cases z with| nil=>rfl| cons a l=>{have:=compD_range (a::l) l [] a rfl;unfold Lib.compact Lib.compactUpTo;rw[List.length_cons,List.range_eq_range',List.range'_succ,List.filter_cons];(have hk:Lib.keeps (a::l).toArray 0=true:=by simp[Lib.keeps]);rw[hk,if_pos rfl,List.map_cons,compL];simp only[List.length_nil,Nat.zero_add]at this;rw[Nat.zero_add,this];simp}
theorem own_grow {W:World}{base e size n:Nat}{v:Value}{xs:List Value}(h:W.ownsRow base e size v n xs)(os:Array Obj):(grow W os).ownsRow base e size v n xs:=
 own_under h ⟨rfl,rfl,rfl,by simp[grow],fun b hb=>by simp only[grow];rw[Array.getElem?_append_left hb]⟩
theorem out_gives (fa:Fa)(FX:Nat)(n:Int)(W:World)(h2:W.cell? ⟨FX,2,none⟩=some (.int .i64 fa.lo))(h3:W.cell? ⟨FX,3,none⟩=some (.int .i64 fa.hi)):
  FnGives Tryz.prog 186 #[.pointer (some ⟨FX,0,none⟩)] #[.int .i64 n] (.bool (decide (n<fa.lo) || decide (fa.hi<n))) W:=by
 show Calls Tryz.prog 186 #[.int .i64 n,.pointer (some ⟨FX,0,none⟩)] W _
 by_cases h:n<fa.lo
 {go_enter Tryz.func186,Tryz.ntmps186;go_wp2;go_ret;(have e:(decide (n<fa.lo) || decide (fa.hi<n))=true:=by simp[h]);rw[e];exact⟨rfl,0,rfl⟩}
 {go_enter Tryz.func186,Tryz.ntmps186;go_wp2;go_ret;(have e:(decide (n<fa.lo) || decide (fa.hi<n))=decide (fa.hi<n):=by rw[decide_eq_false (by omega)];rfl);rw[e];exact⟨rfl,0,rfl⟩}
theorem env_starts (W:World)(f:Fo)(ao:Option Addr)(cap:Nat)(fa:Fa):∃w0,w0=((((W.alloc (.cells #[.int .i64 f.op,.string f.name,.int .i64 f.cmp,.int .i64 f.n,.slice ao f.kids.length cap] 47)).alloc (.cells #[.string fa.name,.int .i64 fa.kind,.int .i64 fa.lo,.int .i64 fa.hi] 86)).alloc (.cells #[.int .i64 fa.lo] 3)).alloc (.cells #[.slice (some ⟨W.heap.size+1+1,0,none⟩) 1 1] 26)).alloc (.cells #[.func (.func 184) #[] #[.pointer (some ⟨W.heap.size+1,0,none⟩),.pointer (some ⟨W.heap.size+1+1+1,0,none⟩),.pointer (some ⟨W.heap.size+1+1+1+1,0,none⟩)]] 210)/\
  EnvC w0 (W.heap.size+1) (W.heap.size+2) fa/\ StC w0 (W.heap.size+2) [fa.lo] w0/\ Below W.heap.size W w0/\ w0.heap.size=W.heap.size+5/\ Blk w0 W.heap.size 47 #[.int .i64 f.op,.string f.name,.int .i64 f.cmp,.int .i64 f.n,.slice ao f.kids.length cap]:=by
 refine⟨_,rfl,?_,?_,?_,by simp,?_⟩
 {refine⟨?_,?_,by omega,by simp⟩;{have q:=(((Blk.new (W.alloc (.cells #[.int .i64 f.op,.string f.name,.int .i64 f.cmp,.int .i64 f.n,.slice ao f.kids.length cap] 47)) 86 #[.string fa.name,.int .i64 fa.kind,.int .i64 fa.lo,.int .i64 fa.hi]).alloc (.cells #[.int .i64 fa.lo] 3)).alloc (.cells #[.slice (some ⟨W.heap.size+1+1,0,none⟩) 1 1] 26)).alloc (.cells #[.func (.func 184) #[] #[.pointer (some ⟨W.heap.size+1,0,none⟩),.pointer (some ⟨W.heap.size+1+1+1,0,none⟩),.pointer (some ⟨W.heap.size+1+1+1+1,0,none⟩)]] 210);simpa only[World.size_alloc]using q};{have q:=Blk.new ((((W.alloc (.cells #[.int .i64 f.op,.string f.name,.int .i64 f.cmp,.int .i64 f.n,.slice ao f.kids.length cap] 47)).alloc (.cells #[.string fa.name,.int .i64 fa.kind,.int .i64 fa.lo,.int .i64 fa.hi] 86)).alloc (.cells #[.int .i64 fa.lo] 3)).alloc (.cells #[.slice (some ⟨W.heap.size+1+1,0,none⟩) 1 1] 26)) 210 #[.func (.func 184) #[] #[.pointer (some ⟨W.heap.size+1,0,none⟩),.pointer (some ⟨W.heap.size+1+1+1,0,none⟩),.pointer (some ⟨W.heap.size+1+1+1+1,0,none⟩)]];simp only[World.size_alloc]at q;exact q}}
 {refine⟨rfl,rfl,rfl,Nat.le_refl _,fun _ _ _ _=>rfl,.slice (some ⟨W.heap.size+1+1,0,none⟩) 1 1,?_,?_,fun g e=>by cases e;exact .inl rfl⟩;{have q:=(Blk.new (((W.alloc (.cells #[.int .i64 f.op,.string f.name,.int .i64 f.cmp,.int .i64 f.n,.slice ao f.kids.length cap] 47)).alloc (.cells #[.string fa.name,.int .i64 fa.kind,.int .i64 fa.lo,.int .i64 fa.hi] 86)).alloc (.cells #[.int .i64 fa.lo] 3)) 26 #[.slice (some ⟨W.heap.size+1+1,0,none⟩) 1 1]).alloc (.cells #[.func (.func 184) #[] #[.pointer (some ⟨W.heap.size+1,0,none⟩),.pointer (some ⟨W.heap.size+1+1+1,0,none⟩),.pointer (some ⟨W.heap.size+1+1+1+1,0,none⟩)]] 210);simp only[World.size_alloc]at q;exact q};{have q:=World.alloc_heap_new ((W.alloc (.cells #[.int .i64 f.op,.string f.name,.int .i64 f.cmp,.int .i64 f.n,.slice ao f.kids.length cap] 47)).alloc (.cells #[.string fa.name,.int .i64 fa.kind,.int .i64 fa.lo,.int .i64 fa.hi] 86)) (.cells #[.int .i64 fa.lo] 3);simp only[World.size_alloc]at q;refine⟨rfl,.inr ⟨W.heap.size+1+1,1,#[.int .i64 fa.lo],rfl,Nat.le_refl _,?_,Nat.le_refl _,by decide,rfl,rfl⟩⟩;rw[Below.heap_alloc _ _ _ (by simp),Below.heap_alloc _ _ _ (by simp)];exact q}}
 {exact(((((Below.refl _ _).alloc (Nat.le_refl _) _).alloc (by simp) _).alloc (by simp;omega) _).alloc (by simp;omega) _).alloc (by simp;omega) _}
 {exact((((Blk.new W _ _).alloc _).alloc _).alloc _).alloc _}
theorem own_holds {W:World}{base g n cap:Nat}{zs:List Int}(h:W.ownsRow base 3 1 (.slice (some ⟨g,0,none⟩) n cap) n (zs.map iW)):Sort.Holds (Value.int .i64) W g 0 zs.toArray:=by
 obtain⟨g',c',e,_,_,_,_,_,q⟩:=Lib.holds_of_ownsRow h (by simp);cases e
 exact q
theorem put_grown {w:World}{g q:Nat}(d:Array Int)(os:Array Obj):w.grownBy (grow (Sort.putRow (Value.int .i64) (Sort.ahead w q) g 0 d) os) (some g):=by
 refine⟨rfl,rfl,rfl,by simp[grow,Sort.putRow,Sort.mapBlock,Sort.ahead],fun k hk hne=>?_⟩;have h:g≠k:=fun e=>hne (by rw[e])
 simp only[grow];rw[Array.getElem?_append_left (by simpa[Sort.putRow,Sort.mapBlock,Sort.ahead]using hk)];simp[Sort.putRow,Sort.mapBlock,Sort.ahead,Array.getElem?_modify,h]
theorem put_grown0 {w:World}{g q:Nat}(d:Array Int):w.grownBy (Sort.putRow (Value.int .i64) (Sort.ahead w q) g 0 d) (some g):=by
 refine⟨rfl,rfl,rfl,by simp[Sort.putRow,Sort.mapBlock,Sort.ahead],fun k hk hne=>?_⟩;have h:g≠k:=fun e=>hne (by rw[e])
 simp[Sort.putRow,Sort.mapBlock,Sort.ahead,Array.getElem?_modify,h]
theorem own_cap {W:World}{base e size n g cap:Nat}{xs:List Value}(h:W.ownsRow base e size (.slice (some ⟨g,0,none⟩) n cap) n xs):n<=cap/\ cap<=maxLen:=by
 rcases h.2 with⟨e,_⟩ | ⟨g',cap',cur,e,_,_,q1,q2,_⟩
 {cases e}
 {cases e;exact⟨q1,q2⟩}
attribute [local go_sem] run_store_func2
theorem starts_any (d:List Fa)(fa:Fa)(f:Fo)(hw:WfF d f)(hsz:f.size<=100000)(v:Value)(W:World)(hf:f.In W W.heap.size v):
  Calls Tryz.prog 151 #[v,.agg #[.string fa.name,.int .i64 fa.kind,.int .i64 fa.lo,.int .i64 fa.hi]] W fun e W'=>∃u,e=.returned u/\ W'.ownsRow W.heap.size 3 1 u (startsD fa.name fa.lo fa.hi f).length ((startsD fa.name fa.lo fa.hi f).map iW)/\ Below W.heap.size W W':=by
 obtain⟨ao,cap,hv⟩:=hf.shape;subst hv;obtain⟨w0,hw0,hE,hst0,hb0,hs0,hbox⟩:=env_starts W f ao cap fa;have HI:=Lib.hid (nums_any d W.heap.size w0 (W.heap.size+1) (W.heap.size+2) fa hE (by omega) f.size f (Nat.le_refl _) hw _ [fa.lo] w0 hst0 (Fo.In.below hb0 _ _ hf) (by simp;omega));have HE:=Lib.hid hE;have HB0:=Lib.hid hb0;have HW0:=Lib.hid hw0;have k0:=hbox.cell 0;have k1:=hbox.cell 1;have k2:=hbox.cell 2;have k3:=hbox.cell 3;have k4:=hbox.cell 4;have kf:=hE.fn.cell 0;have hnl:=numsF_len fa.name f;clear hf hE hst0 hb0 hbox;go_enter Tryz.func151,Tryz.ntmps151;go_upto_region 4 with(fail);rw[<-HW0.out];clear hw0 HW0;go_upto_region 5 with(go_at_call 184;refine HI.out.mono ?_;rintro e w1 ⟨rfl,hS1⟩;have HS1:=Lib.hid hS1;clear hS1);have hs1:=HS1.out.size;obtain⟨vo,hvb,hown,hvt⟩:=HS1.out.ord;have hzl:([fa.lo]++numsF fa.name f).length<=300000:=by simp;omega
 obtain⟨g,gcap,rfl,hg,hg1⟩:=hown.form (by simp);have hgn:=ord_ne hvb hown g rfl;have hfx:=HS1.out.blk HE.out.fact (by omega) (by omega);have hgf:=int_ne (by decide) hfx hown g rfl;have c1:w1.cell? ⟨W.heap.size+3,0,none⟩=_:=hvb.cell 0;have hz1:w1.frozen? ⟨W.heap.size+3,0,none⟩=false:=hvb.frozen 0
 have HST:Hid (startsD fa.name fa.lo fa.hi f=Lib.compact (((([fa.lo]++numsF fa.name f)).mergeSort fun x y=>decide (x<=y)).filter fun n=> !(decide (n<fa.lo) || decide (fa.hi<n)))):=by{show _=_;rw[comp_eq];rfl}
 generalize[fa.lo]++numsF fa.name f=zs at*
 have hB1:=HB0.out.trans ((HS1.out.below (by omega)).mono (by omega));have HSORT:=Lib.hid (Tryz.slices_Sort_int g 0 gcap zs w1 (own_holds hown) hg1 (by omega));have hsl:(zs.mergeSort fun x y=>decide (x<=y)).length=zs.length:=List.length_mergeSort _;have hown2:=fun n os=>own_grow (Lib.ownsRow_putRow (q:=n) (ys:=zs.mergeSort fun x y=>decide (x<=y)) hown hsl (Nat.le_refl _)) os
 generalize(zs.mergeSort fun x y=>decide (x<=y))=ys at*
 have hcap:=own_cap hown;have HVB:=Lib.hid hvb;have HFX:=Lib.hid hfx;have HB1:=Lib.hid hB1;have HOWN2:=Lib.hid hown2;clear hvb hown hvt hfx hB1 hown2 HI HS1 k0 k1 k2 k3 k4 kf;go_upto_region 6 with(go_at_call 107;refine HSORT.out.mono ?_;rintro e w2 ⟨rfl,n2,os2,hw2⟩;have HW2:=Lib.hid hw2;clear hw2);have hg2:w1.grownBy w2 (some g):=by rw[HW2.out];exact put_grown _ _
 have hown2:w2.ownsRow (W.heap.size+2) 3 1 (.slice (some ⟨g,0,none⟩) zs.length gcap) zs.length (ys.map iW):=by{have q:=HOWN2.out n2 os2;rw[List.take_of_length_le (by omega), <-HW2.out]at q;exact q}
 have hvb2:=HVB.out.grown hg2 (fun e=>hgn (by cases e;rfl));have hfx2:=HFX.out.grown hg2 (fun e=>hgf (by cases e;rfl));have HB2:=Lib.hid (HB1.out.grown hg2 (by omega) (fun k e=>by cases e;omega));have c2:w2.cell? ⟨W.heap.size+3,0,none⟩=_:=hvb2.cell 0;have hz2:w2.frozen? ⟨W.heap.size+3,0,none⟩=false:=hvb2.frozen 0;have eg:∀args w,(callFunc 186 args).run Tryz.prog w=.ok (.enter 186 args) w:=enters_of Tryz.func186 (by kernel_rfl) rfl
 have hover:PredOver Tryz.prog 186 #[.pointer (some ⟨W.heap.size+1,0,none⟩)] (Value.int .i64) (fun n=>decide (n<fa.lo) || decide (fa.hi<n)) g 0 ys.toArray.size w2:=fun n os dk x _=>by{(have hh:∀j u,w2.cell? ⟨W.heap.size+1,j,none⟩=some u->(sortWorld (Value.int .i64) w2 g 0 n dk os).cell? ⟨W.heap.size+1,j,none⟩=some u:=fun j u h=>by{unfold sortWorld;rw[Sort.cell?_grow _ _ _ (by show W.heap.size+1<(Sort.putRow _ _ _ _ _).heap.size;rw[Sort.size_putRow];exact hfx2.lt),Sort.cell?_putRow_other _ _ g 0 _ _ (Or.inl (by show W.heap.size+1≠g;omega))];exact h});exact out_gives fa (W.heap.size+1) x _ (hh 2 _ (hfx2.cell 2)) (hh 3 _ (hfx2.cell 3))}
 have hdel:=Tryz.slices_DeleteFunc (Value.int .i64) (fun _=>rfl) (fun n=>decide (n<fa.lo) || decide (fa.hi<n)) 186 #[.pointer (some ⟨W.heap.size+1,0,none⟩)] eg 0 Tryz.zeroValue3 g 0 gcap ys.toArray w2
  (fun W' x hb=>out_gives fa (W.heap.size+1) x W' ((hb.cell (p:=⟨W.heap.size+1,2,none⟩) hfx2.lt).trans (hfx2.cell 2)) ((hb.cell (p:=⟨W.heap.size+1,3,none⟩) hfx2.lt).trans (hfx2.cell 3))) hover (own_holds hown2) (by simp;omega) (by simp;omega)
 rw[show ys.toArray.size=zs.length by simp[hsl]]at hdel;simp only at hdel;have hfl:=List.length_filter_le (fun n=> !(decide (n<fa.lo) || decide (fa.hi<n))) ys;generalize ys.filter (fun n=> !(decide (n<fa.lo) || decide (fa.hi<n)))=fl at*
 have HDEL:=Lib.hid hdel;have hown3:=fun q=>Lib.ownsRow_putRow (q:=q) (ys:=fl++List.replicate (zs.length-fl.length) 0) (k:=fl.length) hown2 (by simp;omega) (by omega)
 have HOWN3:=Lib.hid hown3;have HV2:=Lib.hid hvb2;clear hdel hown3 hown2 hvb2 hfx2 hover eg HW2 HSORT HOWN2 hg2 c1 hz1;go_upto_region 7 with(go_at_call 185;refine HDEL.out.mono ?_;rintro e w3 ⟨rfl,n3,hw3⟩;have HW3:=Lib.hid hw3;have hv3:Blk w3 (W.heap.size+2+1) 26 _:=HV2.out.grown (row:=some g) (by rw[hw3];exact put_grown0 _) (fun e=>hgn (by cases e;rfl));have c3:w3.cell? ⟨W.heap.size+3,0,none⟩=_:=hv3.cell 0;have z3:w3.frozen? ⟨W.heap.size+3,0,none⟩=false:=hv3.frozen 0;clear hw3)
 have hown3:w3.ownsRow (W.heap.size+2) 3 1 (.slice (some ⟨g,0,none⟩) fl.length gcap) fl.length (fl.map iW):=by{have q:=HOWN3.out n3;rw[<-HW3.out,List.take_left]at q;exact q}
 have HB3:=Lib.hid (HB2.out.grown (w':=w3) (row:=some g) (by rw[HW3.out];exact put_grown0 _) (by have:=HB2.out.size;omega) (fun k e=>by cases e;omega));have hown4:=own_struck hown3 ⟨W.heap.size+3,0,none⟩ (.slice (some ⟨g,0,none⟩) fl.length gcap) (fun g' e=>by cases e;show g≠W.heap.size+3;omega);have hB4:=HB3.out.setCell (p:=⟨W.heap.size+3,0,none⟩) (by show W.heap.size<=W.heap.size+3;omega) (.slice (some ⟨g,0,none⟩) fl.length gcap)
 have hs4:(w3.setCell ⟨W.heap.size+3,0,none⟩ (.slice (some ⟨g,0,none⟩) fl.length gcap)).cell? ⟨W.heap.size+3,0,none⟩=some (.slice (some ⟨g,0,none⟩) fl.length gcap):=by{rw[World.cell?_setCell_same' _ _ _ (by rw[c3];rfl)]}
 simp only[Nat.reduceAdd,Nat.add_assoc];generalize w3.setCell ⟨W.heap.size+3,0,none⟩ (.slice (some ⟨g,0,none⟩) fl.length gcap)=w4 at*
 have HCOMP:=Lib.hid (Tryz.slices_Compact_int g 0 gcap fl w4 (own_holds hown4) (by omega) (by omega));have hcl:=Lib.compact_length_le fl;have HOWN5:=Lib.hid (fun q=>Lib.ownsRow_putRow (q:=q) (ys:=Lib.compact fl++List.replicate (fl.length-(Lib.compact fl).length) 0) (k:=(Lib.compact fl).length) hown4 (by simp;omega) (by omega));have HB4:=Lib.hid hB4;clear hown3 hown4 hB4 c3 z3 c2 hz2 HW3;go_wp2_with (go_at_call 108;refine HCOMP.out.mono ?_;rintro e w5 ⟨rfl,n5,hw5⟩;have HW5:=Lib.hid hw5;clear hw5);go_ret;refine⟨_,rfl,?_,?_⟩
 {rw[HST.out,HW5.out];have q:=HOWN5.out n5;rw[List.take_left]at q;exact own_base q (by omega)}
 {exact HB4.out.grown (w':=w5) (row:=some g) (by rw[HW5.out];exact put_grown0 _) (by have:=HB4.out.size;omega) (fun k e=>by cases e;omega)}
end
open Go.RowKit
mutual
def tstF :Fo->List (ByteArray×Bool)->List (ByteArray×Bool)
 | .mk op s _ _ ks,l=>tstL ks (if op=3 then ins l s true else l)
def tstL :List Fo->List (ByteArray×Bool)->List (ByteArray×Bool)
 | [],l=>l
 | k::ks,l=>tstL ks (tstF k l)
end
theorem tstL_fold :∀(ks:List Fo) (l:List (ByteArray×Bool)),tstL ks l=ks.foldl (fun l k=>tstF k l) l
 | [],_=>rfl
 | k::ks,l=>by rw[tstL,List.foldl_cons,tstL_fold ks]
theorem MapSB.key :KeyLaw Value.string Tryz.prog 9:=keyStr Tryz.underlying9
structure StT (w0 : World) (mb : Nat) (l : List (ByteArray × Bool)) (W : World) : Prop where
 os:W.os=w0.os
 tape:W.tape=w0.tape
 output:W.output=w0.output
 size:w0.heap.size<=W.heap.size
 old:∀b,b<w0.heap.size->b≠mb->W.heap[b]? =w0.heap[b]?
 map:MapIs Value.string Value.bool W mb l
theorem StT.below {w0 W:World}{mb B:Nat}{l:List (ByteArray×Bool)}(h:StT w0 mb l W)(hs:B<=w0.heap.size)(hm:B<=mb):Below B w0 W:=⟨h.os,h.tape,h.output,h.size,fun b hb=>h.old b (by omega) (by omega)⟩
theorem StT.more {w0 W W':World}{mb:Nat}{l:List (ByteArray×Bool)}(h:StT w0 mb l W)(hb:Below W.heap.size W W'):StT w0 mb l W':=
 ⟨hb.os.trans h.os,hb.tape.trans h.tape,hb.output.trans h.output,Nat.le_trans h.size hb.size,fun b q1 q2=>(hb.block b (by have:=h.size;omega)).trans (h.old b q1 q2),h.map.below hb h.map.lt⟩
theorem StT.upd {w0 W W':World}{mb:Nat}{l l':List (ByteArray×Bool)}(h:StT w0 mb l W)(hu:Upd mb W W')(hm:MapIs Value.string Value.bool W' mb l'):StT w0 mb l' W':=
 ⟨hu.os.trans h.os,hu.tape.trans h.tape,hu.output.trans h.output,by rw[hu.size];exact h.size,fun b q1 q2=>(hu.block b q2).trans (h.old b q1 q2),hm⟩
abbrev TstW (B:Nat)(w0:World)(mb:Nat)(f:Fo):Prop:=
 ∀(v:Value) (l:List (ByteArray×Bool)) (W:World),StT w0 mb l W->f.In w0 B v->
  Calls Tryz.prog 146 #[v,.map (some mb)] W fun e W'=>e=.returned (.map (some mb))/\ StT w0 mb (tstF f l) W'
theorem tst_step (B:Nat)(w0:World)(mb:Nat)(hB:B<=mb)(hB2:B<=w0.heap.size)(op c n:Int)(s:ByteArray)(ks:List Fo)(IH:∀k∈ks,TstW B w0 mb k):TstW B w0 mb (.mk op s c n ks):=by
 intro v l W hS hf;obtain⟨ao,cap,rfl,w1,w2,w3,w4,k1,k2,hk⟩:=hf;have hsz:=hS.size;have HK:=Lib.hid hk;have HIH:=Lib.hid IH;unfold maxLen at k2;have hS1:=hS.more ((Below.refl _ _).alloc (Nat.le_refl _) (.cells #[.int .i64 op,.string s,.int .i64 c,.int .i64 n,.slice ao ks.length cap] 47));have hx1:=Blk.new W 47 #[.int .i64 op,.string s,.int .i64 c,.int .i64 n,.slice ao ks.length cap];have hmW:=hS.map.lt;obtain⟨W2,hrun2,hm2,hu2⟩:=run_store MapSB.key Tryz.underlying93 hS1.map s true;have hx2:=(hu2.block W.heap.size (by omega)).trans hx1;have y4:=Blk.cell hx2 4;have HS2:Hid (StT w0 mb ((ks.take 0).foldl (fun l k=>tstF k l) (ins l s true)) W2):=hS1.upd hu2 hm2;have HS1:Hid (StT w0 mb ((ks.take 0).foldl (fun l k=>tstF k l) l) (W.alloc (.cells #[.int .i64 op,.string s,.int .i64 c,.int .i64 n,.slice ao ks.length cap] 47))):=hS1;have HT:=Lib.hid (show tstF (.mk op s c n ks) l=ks.foldl (fun l k=>tstF k l) (if op=3 then ins l s true else l) by rw[tstF,tstL_fold]);have hs2:W.heap.size<W2.heap.size:=by rw[hu2.size];simp
 generalize tstF (.mk op s c n ks) l=TF at*
 clear hk IH hS hS1 hx1 hx2 hm2 hu2;by_cases h3:op=3
 ·have hb3:(op==3)=true:=by rw[h3];rfl
  have HT2:=Lib.hid (show TF=ks.foldl (fun l k=>tstF k l) (ins l s true) by rw[HT.out,if_pos h3]);generalize ins l s true=l0 at*
  clear h3 HT HS1;go_enter Tryz.func146,Tryz.ntmps146;go_wp2
  go_loopw [16] (fun iv wr=>∃(j:Nat),j<=ks.length/\ iv=.int .i64 j/\ Hid (StT w0 mb ((ks.take j).foldl (fun l k=>tstF k l) l0) wr)) (fun iv _=>ks.length-(intOf iv).toNat)
  case atStart=>exact⟨0,by omega,rfl,HS2⟩
  case round=>
   obtain⟨j,hj,rfl,hJ⟩:=hrel;clear HS2;by_cases hlt:j<ks.length
   ·obtain⟨kb,off,rfl,hkB,hL⟩:=HK.out (by intro e;rw[e]at hlt;simp at hlt)
    have hbw:=hJ.out.below hB2 hB;have hsJ:=hJ.out.size;obtain⟨ka,kc,c0,c1,c2,c3,c4,hKid⟩:=Fo.InL.get ks off j hlt hL;have d0:=(hbw.cell (p:=⟨kb,off+j*5,none⟩) hkB).trans c0;have d1:=(hbw.cell (p:=⟨kb,off+j*5+1,none⟩) hkB).trans c1;have d2:=(hbw.cell (p:=⟨kb,off+j*5+2,none⟩) hkB).trans c2;have d3:=(hbw.cell (p:=⟨kb,off+j*5+3,none⟩) hkB).trans c3;have d4:=(hbw.cell (p:=⟨kb,off+j*5+4,none⟩) hkB).trans c4;have HI:=Lib.hid (HIH.out ks[j] (List.getElem_mem _) _ _ _ (hJ.out.more ((Below.refl wr.heap.size wr).alloc (Nat.le_refl _) (.cells #[.int .i64 ks[j].op,.string ks[j].name,.int .i64 ks[j].cmp,.int .i64 ks[j].n,.slice ka ks[j].kids.length kc] 47))) hKid)
    have HSN:=Lib.hid (show(ks.take (j+1)).foldl (fun l k=>tstF k l) l0=tstF ks[j] ((ks.take j).foldl (fun l k=>tstF k l) l0) by
     rw[List.take_succ_eq_append_getElem hlt,List.foldl_append];rfl)
    have hkb2:kb<wr.heap.size:=by omega
    clear hKid hL hbw hJ c0 c1 c2 c3 c4;go_wp2_with (go_at_call 146;refine HI.out.mono ?_;rintro e w5 ⟨rfl,h5⟩;have H5:=Lib.hid h5;clear h5);go_roundw
    case rel=>exact⟨j+1,by omega,by go_num,by rw[HSN.out];exact H5⟩
    case measure=>simp[intOf];omega
   {(obtain rfl:j=ks.length:=by omega);have q:=hJ.out;rw[List.take_length]at q;have HQ:=Lib.hid q;clear q hJ;go_wp2;go_ret;rw[HT2.out];exact⟨rfl,HQ.out⟩}
 ·have hb3:(op==3)=false:=by simpa using h3
  have HT2:=Lib.hid (show TF=ks.foldl (fun l k=>tstF k l) l by rw[HT.out,if_neg h3]);clear h3 HT HS2 hrun2 y4 hs2;go_enter Tryz.func146,Tryz.ntmps146;go_wp2
  go_loopw [16] (fun iv wr=>∃(j:Nat),j<=ks.length/\ iv=.int .i64 j/\ Hid (StT w0 mb ((ks.take j).foldl (fun l k=>tstF k l) l) wr)) (fun iv _=>ks.length-(intOf iv).toNat)
  case atStart=>exact⟨0,by omega,rfl,HS1⟩
  case round=>
   obtain⟨j,hj,rfl,hJ⟩:=hrel;clear HS1;by_cases hlt:j<ks.length
   ·obtain⟨kb,off,rfl,hkB,hL⟩:=HK.out (by intro e;rw[e]at hlt;simp at hlt)
    have hbw:=hJ.out.below hB2 hB;have hsJ:=hJ.out.size;obtain⟨ka,kc,c0,c1,c2,c3,c4,hKid⟩:=Fo.InL.get ks off j hlt hL;have d0:=(hbw.cell (p:=⟨kb,off+j*5,none⟩) hkB).trans c0;have d1:=(hbw.cell (p:=⟨kb,off+j*5+1,none⟩) hkB).trans c1;have d2:=(hbw.cell (p:=⟨kb,off+j*5+2,none⟩) hkB).trans c2;have d3:=(hbw.cell (p:=⟨kb,off+j*5+3,none⟩) hkB).trans c3;have d4:=(hbw.cell (p:=⟨kb,off+j*5+4,none⟩) hkB).trans c4;have HI:=Lib.hid (HIH.out ks[j] (List.getElem_mem _) _ _ _ (hJ.out.more ((Below.refl wr.heap.size wr).alloc (Nat.le_refl _) (.cells #[.int .i64 ks[j].op,.string ks[j].name,.int .i64 ks[j].cmp,.int .i64 ks[j].n,.slice ka ks[j].kids.length kc] 47))) hKid)
    have HSN:=Lib.hid (show(ks.take (j+1)).foldl (fun l k=>tstF k l) l=tstF ks[j] ((ks.take j).foldl (fun l k=>tstF k l) l) by
     rw[List.take_succ_eq_append_getElem hlt,List.foldl_append];rfl)
    have hkb2:kb<wr.heap.size:=by omega
    clear hKid hL hbw hJ c0 c1 c2 c3 c4;go_wp2_with (go_at_call 146;refine HI.out.mono ?_;rintro e w5 ⟨rfl,h5⟩;have H5:=Lib.hid h5;clear h5);go_roundw
    case rel=>exact⟨j+1,by omega,by go_num,by rw[HSN.out];exact H5⟩
    case measure=>simp[intOf];omega
   {(obtain rfl:j=ks.length:=by omega);have q:=hJ.out;rw[List.take_length]at q;have HQ:=Lib.hid q;clear q hJ;go_wp2;go_ret;rw[HT2.out];exact⟨rfl,HQ.out⟩}
theorem tst_any (_d:List Fa)(B:Nat)(w0:World)(mb:Nat)(hB:B<=mb)(hB2:B<=w0.heap.size):∀(N:Nat) (f:Fo),f.size<=N->TstW B w0 mb f:=by
 intro N
 induction N with| zero=>intro f h;obtain⟨op,s,c,n,ks⟩:=f;rw[Fo.size]at h;omega| succ N ih=>{intro f h;obtain⟨op,s,c,n,ks⟩:=f;have hk:=size_kid op c n s ks;exact tst_step B w0 mb hB hB2 op c n s ks (fun k hm=>ih k (by have:=hk k hm;omega))}
section
theorem look_ins {ν:Type}(k:ByteArray)(v:ν)(j:ByteArray):∀l:List (ByteArray×ν),(ins l k v).lookup j=if j=k then some v else l.lookup j
 | []=>by{rw[ins,List.lookup_cons,List.lookup_nil];by_cases h:j=k;{subst h;simp};{(have:(j==k)=false:=by simpa using h);rw[this,if_neg h]}}
 | (a,x)::l=>by{rw[ins];by_cases hk:k=a;{subst hk;rw[if_pos (by simp),List.lookup_cons,List.lookup_cons];by_cases h:j=k;{subst h;simp};{(have:(j==k)=false:=by simpa using h);rw[this,if_neg h]}};{(have hka:(k==a)=false:=by simpa using hk);rw[hka,if_neg (by simp),List.lookup_cons,List.lookup_cons,look_ins k v j l];by_cases h:j=a;{subst h;(have hjk:¬j=k:=fun e=>hk e.symm);simp[hjk]};{(have:(j==a)=false:=by simpa using h);rw[this]}}}
structure EnvB (w0 : World) (K DB : Nat) (d : List Fa) (fv : Value) : Prop where
 mv:Blk w0 (K+1) 127 #[.pointer (some ⟨K,0,none⟩)]
 dv:Blk w0 (K+3) 128 #[.map (some (K+2))]
 fb:Blk w0 (K+4) 4 #[.bool false]
 gv:Blk w0 (K+5) 115 #[.func (.func 147) #[] #[.pointer (some ⟨K+1,0,none⟩),.pointer (some ⟨K+4,0,none⟩),.pointer (some ⟨DB,0,none⟩),.pointer (some ⟨K+3,0,none⟩),.pointer (some ⟨K+5,0,none⟩)]]
 db:Blk w0 DB 25 #[fv]
 lt:DB<K
 dom:SlIn FaR 4 w0 K d fv
 tab:TabH K w0
 size:K+6<=w0.heap.size
structure StB (w0 : World) (K : Nat) (S : List Nat) (m : List Dn) (dn : List (ByteArray × Nat)) (W : World) : Prop where
 stp:MkS K [] w0 W
 is:MkIs W K K S m
 own:W.cell? ⟨K,1,none⟩≠some (.map (some (K+2)))
 memo:∃mp,MapIs Value.string (Value.int .i64) W (K+2) mp/\ ∀k,mp.lookup k=(dn.lookup k).map (fun(n:Nat)=>(n:Int))
variable {w0 W W' : World} {K DB : Nat} {S S' : List Nat} {d : List Fa} {fv : Value} {m m' : List Dn} {dn : List (ByteArray × Nat)}
theorem StB.blk (h:StB w0 K S m dn W){b:Nat}{t:TypeId}{cs:Array Value}(hb:Blk w0 b t cs)(ht:(t==106)=false/\ (t==132)=false):Blk W b t cs:=
 h.stp.keep b _ hb (.inr ⟨by simp[solid,ht.1,ht.2],by simp⟩)
theorem StB.size (h:StB w0 K S m dn W):w0.heap.size<=W.heap.size:=h.stp.size
theorem StB.lt (h:StB w0 K S m dn W):K<W.heap.size:=by obtain⟨_,⟨v,mo,xs,h1,_⟩,_⟩:=h.is;exact h1.lt
theorem StB.step (h:StB w0 K S m dn W)(hs:Stp K K W W')(hm:MkIs W' K K S m'):StB w0 K S m' dn W':=by
 obtain⟨mp,⟨es,c,h1,h2⟩,h3⟩:=h.memo;obtain⟨q1,q2⟩:=hs.k (K+2) es c h1 h.own;exact⟨h.stp.trans hs.s,hm,q2,mp,⟨es,c,q1,h2⟩,h3⟩
theorem StB.below (h:StB w0 K S m dn W)(hb:Below W.heap.size W W'):StB w0 K S m dn W':=
 h.step (Stp.of_below hb h.lt) (h.is.below hb (Nat.le_refl _))
theorem StB.less (h:StB w0 K S m dn W)(hs:∀k∈S',k∈S):StB w0 K S' m dn W:=⟨h.stp,h.is.less hs,h.own,h.memo⟩
theorem StB.learn (h:StB w0 K S m dn W){mp:List (ByteArray×Int)}(hmp:∀k,mp.lookup k=(dn.lookup k).map (fun(n:Nat)=>(n:Int))){key:ByteArray}{n:Nat}(hu:Upd (K+2) W W')(hm:MapIs Value.string (Value.int .i64) W' (K+2) (ins mp key (n:Int)))
  (hk0:MapIs Value.string (Value.int .i64) W (K+2) mp):StB w0 K S m ((key,n)::dn) W'/\ MkS K [] W W':=by
 have hsoft:=map_soft hk0;have hs:MkS K [] W W':=MkS.of_upd hu ⟨by omega,.inr hsoft⟩;have hsS:MkS K S W W':=hs.more (by simp);obtain⟨hge,⟨v,mo,xs,h1,h2,h3,h4,h5⟩,hlen⟩:=h.is;have hne:K≠K+2:=by omega
 have hb':Blk W' K 132 #[v,.map mo]:=(hu.block K hne).trans h1;refine⟨⟨h.stp.trans hs,⟨hge,⟨v,mo,xs,hb',own_block h2 (fun g hg=>hu.block g ?_),h3,fun x hx=>(h4 x hx).step hsS,?_⟩,hlen⟩,?_,_,hm,?_⟩,hs⟩
 {rintro rfl;(rcases h2.2 with⟨rfl,_⟩ | ⟨g',cap,cur,rfl,_,hg',_⟩);{cases hg};{(have:g'=K+2:=by simpa[Value.ownBlock]using hg);subst this;exact ne_map hk0 hg' rfl}}
 {(rcases h5 with h5 | ⟨ab,e1,e2,e3⟩);{exact .inl h5};{refine .inr ⟨ab,e1,e2,?_⟩;obtain⟨es,c,q1,q2⟩:=e3;refine⟨es,c,(hu.block ab ?_).trans q1,q2⟩;rintro rfl;exact h.own (by rw[h1.cell 1,e1];rfl)}}
 {rw[hu.cell (p:=⟨K,1,none⟩) hne];exact h.own}
 {intro k;rw[look_ins,List.lookup_cons];by_cases hk:k=key;{subst hk;simp};{(have:(k==key)=false:=by simpa using hk);rw[this,if_neg hk];exact hmp k}}
def ownL (v:Value):List Nat:=v.ownBlock.toList
theorem own_at {W:World}{base e size n:Nat}{v:Value}{xs:List Value}(h:W.ownsRow base e size v n xs):∀g,v.ownBlock=some g->base<=g/\ ∃cs,W.heap[g]? =some (.cells cs e (0,0)):=by
 intro g hg;rcases h.2 with⟨rfl,_⟩ | ⟨g',cap,cur,rfl,h1,h2,_⟩
 {simp[Value.ownBlock]at hg}
 {(have:g'=g:=by simpa[Value.ownBlock]using hg);subst this;exact⟨h1,cur,h2⟩}
theorem own_mks {base e size n:Nat}{v:Value}{xs:List Value}(h:W.ownsRow base e size v n xs)(hs:MkS K S W W')(ht:(e==106)=false/\ (e==132)=false)(hS:∀g,v.ownBlock=some g->g∉S):W'.ownsRow base e size v n xs:=
 own_block h fun g hg=>by{obtain⟨_,cs,h1⟩:=own_at h g hg;rw[h1];exact hs.keep g _ h1 (.inr ⟨by simp[solid,ht.1,ht.2],hS g hg⟩)}
theorem StB.app {base n:Nat}{kv v':Value}{xs:List Value}(h:StB w0 K (ownL kv++S) m dn W)(hK:K+6<=w0.heap.size)(ho:W.ownsRow base 3 1 kv n xs)(hb:w0.heap.size<=base)(hg:W.grownBy W' kv.ownBlock){g:Nat}(hv:v'.ownBlock=some g)(hat:kv.ownBlock=some g\/g=W.heap.size):
  StB w0 K (ownL v'++S) m dn W'/\ MkS K (ownL kv) W W':=by
 have hown:=own_at ho;have hs1:MkS K (ownL kv) W W':=MkS.of_grown hg fun b e=>⟨by have:=(hown b e).1;omega,.inl (by unfold ownL;rw[e];simp)⟩
 have hk:∀b o,W.heap[b]? =some o->solid o=false->b<W.heap.size->W'.heap[b]? =some o:=fun b o h1 h2 h3=>by{refine(hg.block b h3 fun e=>?_).trans h1;obtain⟨_,cs,h4⟩:=hown b e.symm;rw[h1]at h4;(cases h4);simp[solid]at h2}
 have hvl:ownL v'=[g]:=by unfold ownL;rw[hv];rfl
 refine⟨⟨?_,?_,?_,?_⟩,hs1⟩
 {(refine((h.stp.more (S':=ownL kv) (by simp)).trans hs1).less fun b hb' hlt=>?_);(have e:kv.ownBlock=some b:=by unfold ownL at hb';simpa using hb');have:=(hown b e).1;omega}
 {rw[hvl];(rcases hat with e | e);{(have:ownL kv=[g]:=by unfold ownL;rw[e];rfl);rw[<-this];exact h.is.keep (hs1.more fun b hb=>List.mem_append_left _ hb) hk};{(refine(h.is.fresh (k:=g) (by omega) (hs1.more fun b hb=>List.mem_append_left _ hb) hk).less fun k hk=>?_);(rcases List.mem_append.1 hk with hk | hk);{simp at hk;simp[hk]};{simp[hk]}}}
 {(have:W'.heap[K]? =W.heap[K]? :=hg.block K h.lt fun e=>by have:=(hown K e.symm).1;omega);rw[World.cell?_of_block (a:=⟨K,1,none⟩) this];exact h.own}
 {obtain⟨mp,⟨es,c,h1,h2⟩,h3⟩:=h.memo;exact⟨mp,⟨es,c,hk _ _ h1 rfl (heap_lt h1),h2⟩,h3⟩}
theorem set_same {W:World}{b:Nat}{t:TypeId}{v:Value}(h:Blk W b t #[v]):W.setCell ⟨b,0,none⟩ v=W:=by
 have e:(W.setCell ⟨b,0,none⟩ v).heap=W.heap:=by{apply Array.ext_getElem?;intro i;by_cases hi:i=b;{subst hi;rw[heap_setCell_same W i 0 _ _ v h,show W.heap[i]? =_ from h];rfl};{exact heap_setCell_other W ⟨b,0,none⟩ i v hi}}
 show({W with heap:=(W.setCell ⟨b,0,none⟩ v).heap}:World)=W
 rw[e]
theorem foFix {H:Nat}{f:Fo}{v:Value}(hf:f.InP W (Fix W H S) v)(hs:MkS H S W W'):f.InP W' (Fix W' H S) v:=Fo.InP.step (fun _ h=>h.heap hs) (fun _ h=>h.step hs) _ _ hf
theorem foOpen {H:Nat}{f:Fo}{v:Value}(hf:f.InP W (Fix W H S) v)(hs:∀b∈S',b∈S\/W.heap.size<=b):f.InP W (Fix W H S') v:=Fo.InP.step (fun _ _=>rfl) (fun b h=>⟨h.1,h.2.imp id fun hc=>⟨fun e=>(hs b e).elim hc.1 (fun q=>by have:=h.1;omega),hc.2⟩⟩) _ _ hf
theorem foNew {H:Nat}{f:Fo}{v:Value}(hS:∀b∈S,b<W.heap.size)(hb:Below W.heap.size W W')(hf:f.InP W' (PN (Fix W H S) W W') v):f.InP W' (Fix W' H S) v:=
 Fo.InP.step (fun _ _=>rfl) (fun b h=>by
  rcases h with h | ⟨hge,cs,h⟩
  {exact h.step (MkS.of_below hb (Nat.le_refl _))}
  ·exact⟨heap_lt h,.inr ⟨fun e=>by have:=hS b e;omega,_,h,rfl⟩⟩) _ _ hf
end
open Go.Sort (grow)
theorem bld_new (W:World):Bld W.heap.size W.heap.size [] (W.alloc (.cells #[.pointer none,.slice none 0 0] 180)):=
 .inl ⟨Nat.le_refl _,.slice none 0 0,World.alloc_heap_new W _,⟨by simp[Lib.byteCells],.inl ⟨rfl,rfl⟩⟩,by simp[Value.ownBlock]⟩
end Go.Proofs.YtihniipjfdenbaaGreatDoor
