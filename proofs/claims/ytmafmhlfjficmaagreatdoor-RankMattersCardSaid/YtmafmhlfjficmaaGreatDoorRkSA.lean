/- The walks of the court: the diagram of a provision, whether one holds alone, special, why. A bound on the conditions' sizes. -/
import Derived.Test.YtmafmhlfjficmaaGreatDoorRkPA
import Derived.Test.YtmafmhlfjficmaaGreatDoorDgBB
import Derived.Test.YtmafmhlfjficmaaGreatDoorDgNt
import Derived.Test.YtmafmhlfjficmaaGreatDoorDgLs
import Derived.Test.YtmafmhlfjficmaaGreatDoorDgAV
namespace Go.Proofs.YtmafmhlfjficmaaGreatDoor
section
open Go.RowKit
structure CtE (w0 : World) (B CB KB : Nat) (d : List Fa) (ps : List Pv) (ts : List Int) (c0 c1 c2 : Value) : Prop where
 blk:Blk w0 CB 88 #[c0,c1,c2,.map (some KB)]
 dom:SlIn FaR 4 w0 B d c0
 pvs:SlIn PvR 23 w0 B ps c1
 tms:SlIn (OneR (Value.int .i64)) 1 w0 B ts c2
 hB:B<=CB
 hBK:B<=KB
 ne:CB≠KB
 ltK:KB<w0.heap.size
 tab:TabH B w0
theorem CtE.lt {w0:World}{B CB KB:Nat}{d:List Fa}{ps:List Pv}{ts:List Int}{c0 c1 c2:Value}(h:CtE w0 B CB KB d ps ts c0 c1 c2):CB<w0.heap.size:=h.blk.lt
structure StK (w0 : World) (KB : Nat) (d : List Fa) (ps : List Pv) (W : World) : Prop where
 os:W.os=w0.os
 tape:W.tape=w0.tape
 output:W.output=w0.output
 size:w0.heap.size<=W.heap.size
 old:∀b,b<w0.heap.size->b≠KB->W.heap[b]? =w0.heap[b]?
 map:∃l:List (Int×Value),MapIs (Value.int .i64) (fun v:Value=>v) W KB l/\ ∀k v,l.lookup k=some v->(buildX d (condP ps k.toNat)).2=0/\ DgIn W W.heap.size (buildX d (condP ps k.toNat)).1 v
variable {w0 W W' : World} {B CB KB : Nat} {d : List Fa} {ps : List Pv} {ts : List Int} {c0 c1 c2 : Value}
theorem StK.below (h:StK w0 KB d ps W)(hB:B<=w0.heap.size)(hK:B<=KB):Below B w0 W:=⟨h.os,h.tape,h.output,h.size,fun b hb=>h.old b (by omega) (by omega)⟩
theorem StK.more (h:StK w0 KB d ps W)(hb:Below W.heap.size W W'):StK w0 KB d ps W':=by
 obtain⟨l,h1,h2⟩:=h.map;refine⟨hb.os.trans h.os,hb.tape.trans h.tape,hb.output.trans h.output,Nat.le_trans h.size hb.size,fun b q1 q2=>(hb.block b (by have:=h.size;omega)).trans (h.old b q1 q2),l,h1.below hb h1.lt,fun k v hl=>?_⟩;obtain⟨q1,q2⟩:=h2 k v hl;exact⟨q1,(q2.below hb).mono hb.size⟩
theorem cell_ne_map {l:List (Int×Value)}(h:MapIs (Value.int .i64) (fun v:Value=>v) W KB l){b o:Nat}{x:Value}(hc:W.cell? ⟨b,o,none⟩=some x):b≠KB:=by
 rintro rfl;obtain⟨es,c,h1,_⟩:=h;simp[World.cell?,h1]at hc
theorem ints_upd {l:List (Int×Value)}(h:MapIs (Value.int .i64) (fun v:Value=>v) W KB l)(hu:Upd KB W W'){B:Nat}{l:List Int}{v:Value}(hi:IntsIn W B l v):IntsIn W' B l v:=by
 obtain⟨ao,cap,rfl,h1,h2,h3⟩:=hi;refine⟨ao,cap,rfl,h1,h2,fun hne=>?_⟩;obtain⟨b',off,rfl,hlt,hc⟩:=h3 hne;exact⟨b',off,rfl,hlt,fun i hi=>(hu.cell (p:=⟨b',_,none⟩) (cell_ne_map h (hc i hi))).trans (hc i hi)⟩
theorem DgIn.upd {l:List (Int×Value)}(h:MapIs (Value.int .i64) (fun v:Value=>v) W KB l)(hu:Upd KB W W'){B:Nat}{g:List Dn}{v:Value}(hd:DgIn W B g v):DgIn W' B g v:=by
 obtain⟨_,rfl,ao,cap,rfl,h1,h2,h3⟩:=hd;refine⟨_,rfl,ao,cap,rfl,h1,h2,fun hne=>?_⟩;obtain⟨b',off,rfl,hlt,hc⟩:=h3 hne;refine⟨b',off,rfl,hlt,fun i hi=>?_⟩;obtain⟨vc,vk,e0,e1,e2,e3,hcu,hki⟩:=hc i hi;have hne':=cell_ne_map h e0;exact⟨vc,vk,(hu.cell (p:=⟨b',_,none⟩) hne').trans e0,(hu.cell (p:=⟨b',_,none⟩) hne').trans e1,(hu.cell (p:=⟨b',_,none⟩) hne').trans e2,(hu.cell (p:=⟨b',_,none⟩) hne').trans e3,ints_upd h hu hcu,ints_upd h hu hki⟩
structure StepK (KB : Nat) (W W' : World) : Prop where
 os:W'.os=W.os
 tape:W'.tape=W.tape
 output:W'.output=W.output
 size:W.heap.size<=W'.heap.size
 old:∀b,b<W.heap.size->b≠KB->W'.heap[b]? =W.heap[b]?
theorem StepK.of_below (h:Below W.heap.size W W'):StepK KB W W':=⟨h.os,h.tape,h.output,h.size,fun b hb _=>h.block b hb⟩
theorem StepK.of_upd (h:Upd KB W W'):StepK KB W W':=⟨h.os,h.tape,h.output,Nat.le_of_eq h.size.symm,fun b _ hne=>h.block b hne⟩
theorem StepK.trans {W'':World}(h:StepK KB W W')(k:StepK KB W' W''):StepK KB W W'':=
 ⟨k.os.trans h.os,k.tape.trans h.tape,k.output.trans h.output,Nat.le_trans h.size k.size,fun b hb hne=>(k.old b (Nat.lt_of_lt_of_le hb h.size) hne).trans (h.old b hb hne)⟩
theorem StepK.put (h:StepK KB W W'){b:Nat}(hge:W.heap.size<=b)(u:Value):StepK KB W (W'.setCell ⟨b,0,none⟩ u):=
 ⟨h.os,h.tape,h.output,by rw[World.size_setCell];exact h.size,fun x hx hne=>(heap_setCell_other W' ⟨b,0,none⟩ x u (by show x≠b;omega)).trans (h.old x hx hne)⟩
theorem StepK.below (h:StepK KB W W')(hB:B<=W.heap.size)(hK:B<=KB):Below B W W':=⟨h.os,h.tape,h.output,h.size,fun b hb=>h.old b (by omega) (by omega)⟩
theorem StepK.blk (h:StepK KB W W'){b:Nat}{t:TypeId}{cs:Array Value}(hb:Blk W b t cs)(hne:b≠KB):Blk W' b t cs:=(h.old b hb.lt hne).trans hb
theorem ints_step {l:List (Int×Value)}(h:MapIs (Value.int .i64) (fun v:Value=>v) W KB l)(hu:StepK KB W W'){B:Nat}{l:List Int}{v:Value}(hi:IntsIn W B l v):IntsIn W' B l v:=by
 obtain⟨ao,cap,rfl,h1,h2,h3⟩:=hi;refine⟨ao,cap,rfl,h1,h2,fun hne=>?_⟩;obtain⟨b',off,rfl,hlt,hc⟩:=h3 hne;exact⟨b',off,rfl,hlt,fun i hi=>(World.cell?_of_block (a:=⟨b',_,none⟩) (hu.old b' (World.block_lt_of_cell? _ _ (hc i hi)) (cell_ne_map h (hc i hi)))).trans (hc i hi)⟩
theorem DgIn.stepK {l:List (Int×Value)}(h:MapIs (Value.int .i64) (fun v:Value=>v) W KB l)(hu:StepK KB W W'){B:Nat}{g:List Dn}{v:Value}(hd:DgIn W B g v):DgIn W' B g v:=by
 obtain⟨_,rfl,ao,cap,rfl,h1,h2,h3⟩:=hd;refine⟨_,rfl,ao,cap,rfl,h1,h2,fun hne=>?_⟩;obtain⟨b',off,rfl,hlt,hc⟩:=h3 hne;refine⟨b',off,rfl,hlt,fun i hi=>?_⟩;obtain⟨vc,vk,e0,e1,e2,e3,hcu,hki⟩:=hc i hi;have k:=fun o=>World.cell?_of_block (a:=⟨b',o,none⟩) (hu.old b' (World.block_lt_of_cell? _ _ e0) (cell_ne_map h e0))
 exact⟨vc,vk,(k _).trans e0,(k _).trans e1,(k _).trans e2,(k _).trans e3,ints_step h hu hcu,ints_step h hu hki⟩
theorem DgV.stepK {l:List (Int×Value)}(h:MapIs (Value.int .i64) (fun v:Value=>v) W KB l)(hu:StepK KB W W'){b:Nat}{t:List Dn}{a:Option Addr}{c:Nat}(hv:DgV W b t a c)(hne:b≠KB):DgV W' b t a c:=
 ⟨hu.blk hv.box hne,(hv.dg.stepK h hu).mono hu.size⟩
theorem look_insI {ν:Type}(k:Int)(v:ν)(j:Int):∀l:List (Int×ν),(ins l k v).lookup j=if j=k then some v else l.lookup j
 | []=>by
  rw[ins,List.lookup_cons,List.lookup_nil];by_cases h:j=k
  ·subst h;simp
  ·have:(j==k)=false:=by simpa using h
   rw[this,if_neg h]
 | (a,x)::l=>by
  rw[ins];by_cases hk:k=a
  ·subst hk
   rw[if_pos (by simp),List.lookup_cons,List.lookup_cons];by_cases h:j=k
   ·subst h;simp
   ·have:(j==k)=false:=by simpa using h
    rw[this,if_neg h]
  ·have hka:(k==a)=false:=by simpa using hk
   rw[hka,if_neg (by simp),List.lookup_cons,List.lookup_cons,look_insI k v j l];by_cases h:j=a
   ·subst h
    have hjk:¬j=k:=fun e=>hk e.symm
    simp[hjk]
   ·have:(j==a)=false:=by simpa using h
    rw[this]
theorem StK.learn (h:StK w0 KB d ps W){l:List (Int×Value)}(hl:MapIs (Value.int .i64) (fun v:Value=>v) W KB l)(hk:∀k v,l.lookup k=some v->(buildX d (condP ps k.toNat)).2=0/\ DgIn W W.heap.size (buildX d (condP ps k.toNat)).1 v)
  {i:Int} {v:Value} (hu:Upd KB W W') (hm:MapIs (Value.int .i64) (fun v:Value=>v) W' KB (ins l i v)) (he:(buildX d (condP ps i.toNat)).2=0) (hv:DgIn W W.heap.size (buildX d (condP ps i.toNat)).1 v):StK w0 KB d ps W':=by
 refine⟨hu.os.trans h.os,hu.tape.trans h.tape,hu.output.trans h.output,by rw[hu.size];exact h.size,fun b q1 q2=>(hu.block b q2).trans (h.old b q1 q2),_,hm,fun k u hk'=>?_⟩;rw[look_insI]at hk';rw[hu.size];by_cases e:k=i
 ·subst e
  rw[if_pos rfl]at hk';cases hk'
  exact⟨he,hv.upd hl hu⟩
 ·rw[if_neg e]at hk'
  obtain⟨q1,q2⟩:=hk k u hk';exact⟨q1,q2.upd hl hu⟩
theorem StK.put (h:StK w0 KB d ps W){b:Nat}{t:TypeId}{a:Option Addr}{n c:Nat}(hb:Blk W b t #[.slice a n c])(hge:w0.heap.size<=b)(hne:b≠KB)(u:Value):StK w0 KB d ps (W.setCell ⟨b,0,none⟩ u):=by
 obtain⟨l,⟨es,cc,h1,h2⟩,hk⟩:=h.map;refine⟨h.os,h.tape,h.output,by rw[World.size_setCell];exact h.size,fun x q1 q2=>(heap_setCell_other W ⟨b,0,none⟩ x u (by show x≠b;omega)).trans (h.old x q1 q2),l,⟨es,cc,(heap_setCell_other W ⟨b,0,none⟩ KB u (fun e=>hne e.symm)).trans h1,h2⟩,fun k v hl=>?_⟩;obtain⟨q1,q2⟩:=hk k v hl;exact⟨q1,by rw[World.size_setCell];exact q2.set hb u⟩
theorem StK.first {l:List (Int×Value)}(hm:MapIs (Value.int .i64) (fun v:Value=>v) w0 KB l)(hl:l=[]):StK w0 KB d ps w0:=⟨rfl,rfl,rfl,Nat.le_refl _,fun _ _ _=>rfl,l,hm,fun k v h=>by subst hl;cases h⟩
theorem StK.court (hE:CtE w0 B CB KB d ps ts c0 c1 c2)(h:StK w0 KB d ps W):Blk W CB 88 #[c0,c1,c2,.map (some KB)]:=(h.old CB hE.lt hE.ne).trans hE.blk
theorem StK.base (hE:CtE w0 B CB KB d ps ts c0 c1 c2)(h:StK w0 KB d ps W):Below B w0 W:=h.below (by have:=hE.lt;have:=hE.hB;omega) hE.hBK
end
section
open Go.RowKit
theorem zero_dg :∀w,(zeroValue 92).run Tryz.prog w=.ok (.agg #[.slice none 0 0]) w:=Tryz.zeroValue92
theorem MapIV.key :KeyLaw (Value.int .i64) Tryz.prog 3:=keyInt Tryz.underlying3
theorem two_below (W:World)(o o':Obj):Below W.heap.size W ((W.alloc o).alloc o'):=((Below.refl _ _).alloc (Nat.le_refl _) _).alloc (by simp) _
theorem hid_drew_alloc (W:World)(o:Obj):Hid (Below W.heap.size W (W.drew.alloc o)):=((Below.refl _ _).drew).alloc (Nat.le_refl _) o
theorem hid_alloc {W w:World}(h:Hid (Below W.heap.size W w))(o:Obj):Hid (Below W.heap.size W (w.alloc o)):=h.out.alloc h.out.size o
variable {w0 W : World} {B CB KB : Nat} {d : List Fa} {ps : List Pv} {ts : List Int} {c0 c1 c2 : Value}
set_option maxRecDepth 100000 in
set_option maxHeartbeats 4000000 in
theorem court_diagram (hE:CtE w0 B CB KB d ps ts c0 c1 c2)(hS:StK w0 KB d ps W)(i:Nat)(hi:i<ps.length)(hsz:ps[i].cond.size<=1000000):
  Calls Tryz.prog 68 #[.pointer (some ⟨CB,0,none⟩),.int .i64 i] W fun e W'=>∃(a:Option Addr) (k:Nat),e=.returned (.tuple #[.agg #[.slice a (buildX d (condP ps i)).1.length k],.int .i64 (buildX d (condP ps i)).2])/\
   Hid (DgIn W' W'.heap.size (buildX d (condP ps i)).1 (.agg #[.slice a (buildX d (condP ps i)).1.length k]))/\ Hid (StK w0 KB d ps W')/\ Hid (StepK KB W W'):=by
 have hS1:=hS.more ((Below.refl W.heap.size W).alloc (Nat.le_refl _) (.cells #[.slice none 0 0] 92));obtain⟨l,hm0,hkn⟩:=hS.map;have hm:=hm0.alloc (.cells #[.slice none 0 0] 92);have hlk:=run_look_ok MapIV.key Tryz.underlying86 zero_dg hm (i:Int);have hcb:=hS1.court hE;have x0:=hcb.cell 0;have x1:=hcb.cell 1;have x3:=hcb.cell 3;have r4:=(Blk.new W 92 #[.slice none 0 0]).cell 0;have e:condP ps i=ps[i].cond:=condP_at hi;have HE:=Lib.hid hE;have HS:=Lib.hid hS;have HS1:=Lib.hid hS1;have HM:=Lib.hid hm;have HKN:=Lib.hid hkn;have HCB:=Lib.hid hcb;have hKW:KB<W.heap.size:=by have:=hE.ltK;have:=hS.size;omega
 have hCW:CB<W.heap.size:=by have:=hE.lt;have:=hS.size;omega
 clear hE hS hS1 hm hkn hcb hm0;cases hl:l.lookup (i:Int)with
 | some v=>
  rw[hl]at hlk;obtain⟨q1,q2⟩:=HKN.out _ _ hl;rw[Int.toNat_natCast]at q1 q2;have HV:=Lib.hid q2;obtain⟨u,rfl,q3⟩:=q2;obtain⟨a,k,rfl,_⟩:=SlIn.shape q3;rw[q1];clear q3 q1 hl;generalize(buildX d (condP ps i)).1=T at*
  go_enter Tryz.func68,Tryz.ntmps68;go_wp2;have hcs:=((Blk.new W 92 #[.slice a T.length k]).alloc (.cells #[.slice a T.length k] 92)).cell 0;refine bodyPost_ret (by simp[results,Tryz.results68,go_sem,hcs];try rfl) rfl ?_;have hb:=two_below W (.cells #[.slice a T.length k] 92) (.cells #[.slice a T.length k] 92);exact⟨_,_,rfl,(HV.out.below hb).mono hb.size,HS.out.more hb,StepK.of_below hb⟩
 | none=>
  rw[hl]at hlk;obtain⟨ap,cp,hc1,_⟩:=SlIn.shape HE.out.pvs;obtain⟨ad,cd,hc0,_⟩:=SlIn.shape HE.out.dom;subst hc1;subst hc0;obtain⟨b,off,rfl,hbB,ak,ck,ae,ce,hr,hf,he,hzz⟩:=SlIn.at (HE.out.pvs.below PvR.kept (HS.out.base HE.out)) i hi;rw[e];have e5:=hr 5 _ rfl;have e6:=hr 6 _ rfl;have e7:=hr 7 _ rfl;have e8:=hr 8 _ rfl;have e9:=hr 9 _ rfl;obtain⟨W2,hW2⟩:∃W2,((W.alloc (.cells #[.slice none 0 0] 92)).alloc (.cells #[.slice none 0 0] 92))=W2:=⟨_,rfl⟩;have hb2:=two_below W (.cells #[.slice none 0 0] 92) (.cells #[.slice none 0 0] 92);rw[hW2]at hb2;have HW2:=Lib.hid hW2;have hbB2:B<=W.heap.size:=by have:=HE.out.hB;omega
  have HKP:Hid (∀w',Below W2.heap.size W2 w'->(w'.cell? ⟨CB,0,none⟩=some (.slice ad d.length cd)/\ w'.cell? ⟨CB,1,none⟩=some (.slice (some ⟨b,off,none⟩) ps.length cp)/\ w'.cell? ⟨b,off+i*23+5,none⟩=some (.int .i64 ps[i].cond.op)/\ w'.cell? ⟨b,off+i*23+6,none⟩=some (.string ps[i].cond.name)/\ w'.cell? ⟨b,off+i*23+7,none⟩=some (.int .i64 ps[i].cond.cmp)/\ w'.cell? ⟨b,off+i*23+8,none⟩=some (.int .i64 ps[i].cond.n)/\ w'.cell? ⟨b,off+i*23+9,none⟩=some (.slice ak ps[i].cond.kids.length ck))/\ Hid (Below W2.heap.size W2 w')):=by
   intro w' hb;have hbw:Below B W w':=(hb2.mono hbB2).trans (hb.mono (by have:=hb2.size;omega));have k:=fun o=>hbw.cell (p:=⟨b,o,none⟩) hbB
   have hcb:=(HS.out.more (hb2.trans (hb.mono hb2.size))).court HE.out;exact⟨⟨hcb.cell 0,hcb.cell 1,(k _).trans e5,(k _).trans e6,(k _).trans e7,(k _).trans e8,(k _).trans e9⟩,hb⟩
  have HBD:Hid (∀w',Hid (Below W2.heap.size W2 w')->Calls Tryz.prog 87 #[.agg #[.int .i64 ps[i].cond.op,.string ps[i].cond.name,.int .i64 ps[i].cond.cmp,.int .i64 ps[i].cond.n,.slice ak ps[i].cond.kids.length ck],.agg #[.slice ad d.length cd]] w' fun e w''=>
    ∃(a:Option Addr) (k:Nat),e=.returned (.tuple #[.agg #[.slice a (buildX d ps[i].cond).1.length k],.int .i64 (buildX d ps[i].cond).2])/\ Hid (DgIn w'' w''.heap.size (buildX d ps[i].cond).1 (.agg #[.slice a (buildX d ps[i].cond).1.length k]))/\ Hid (Below w'.heap.size w' w'')/\ Hid (Below W2.heap.size W2 w'')):=by
   intro w' hb;have hbw:Below B W w':=(hb2.mono hbB2).trans (hb.out.mono (by have:=hb2.size;omega));have hs:=hbw.size;refine(buildX_any ps[i].cond d _ _ w' B hsz (by omega) (Fo.In.below hbw _ _ hf) ⟨_,rfl,(HE.out.dom.below FaR.kept (HS.out.base HE.out)).below FaR.kept hbw⟩ (fun w'' h=>HE.out.tab w'' ((HS.out.base HE.out).trans (hbw.trans (h.mono (by omega)))))).mono ?_;rintro e w'' ⟨g,rfl,⟨u,rfl,h1⟩,h2⟩;obtain⟨a,k,rfl,_⟩:=SlIn.shape h1;exact⟨a,k,rfl,⟨_,rfl,h1⟩,h2,hb.out.trans (h2.mono hb.out.size)⟩
  clear hr hf he hzz e5 e6 e7 e8 e9;generalize ps[i]=p at*
  have HB2:=Lib.hid hb2;clear hW2 hb2;go_enter Tryz.func68,Tryz.ntmps68;go_upto_region 4 with(fail);rw[HW2.out]
  go_cut[8,9] (fun s8 s9 wx=>∃(X:Nat) (a:Option Addr) (k:Nat),s8=.pointer (some ⟨X,0,none⟩)/\ s9=.int .i64 (buildX d p.cond).2/\ Hid (DgV wx X (buildX d p.cond).1 a k)/\ Hid (Below W2.heap.size W2 wx)/\ Hid (W2.heap.size<=X))
  case first=>
   refine wp_region_held_drew (S:=(fun w':World=>Hid (Below W2.heap.size W2 w'))) (by kernel_rfl) (Lib.hid ((Below.refl W2.heap.size W2).drew)) (fun hHeld=>?_);refine tp 0 ?_;refine tp 5 ?_;refine tp 9 ?_;refine tk 1 ?v1 ?y1 ?_
   case y1=>(intro w9 hSw;obtain⟨⟨y0,y1,y2,y3,y4,y5,y6⟩,_⟩:=HKP.out w9 hSw.out;go_simp;try with_reducible rfl)
   refine tk 10 ?v10 ?y10 ?_
   case y10=>(intro w9 hSw;obtain⟨⟨y0,y1,y2,y3,y4,y5,y6⟩,_⟩:=HKP.out w9 hSw.out;go_simp;try with_reducible rfl)
   refine tp 2 ?_;refine tp 11 ?_;refine tp 3 ?_;refine tp 12 ?_;refine tk 4 ?v4 ?y4 ?_
   case y4=>(intro w9 hSw;obtain⟨⟨y0,y1,y2,y3,y4,y5,y6⟩,_⟩:=HKP.out w9 hSw.out;go_simp;try with_reducible rfl)
   refine tk 13 ?v13 ?y13 ?_
   case y13=>(intro w9 hSw;obtain⟨⟨y0,y1,y2,y3,y4,y5,y6⟩,_⟩:=HKP.out w9 hSw.out;go_simp;try with_reducible rfl)
   refine tk 6 ?v6 ?y6 ?_
   case y6=>(intro w9 hSw;obtain⟨⟨y0,y1,y2,y3,y4,y5,y6⟩,_⟩:=HKP.out w9 hSw.out;go_simp;try with_reducible rfl)
   refine tp 7 ?_;refine tk 8 ?v8 ?y8 ?_
   case y8=>(intro w9 hSw;obtain⟨⟨y0,y1,y2,y3,y4,y5,y6⟩,_⟩:=HKP.out w9 hSw.out;go_simp;try with_reducible rfl)
   refine tt 14 18 (fun K hK=>?_) (fun K hK=>?_)
   ·skip
    (go_simp;go_at_call 87;refine(HBD.out _ (by first | assumption | exact Lib.hid ((Below.refl _ _).drew) | exact hid_drew_alloc _ _ | exact hid_alloc (by assumption) _)).mono ?_;rintro e w8 ⟨a8,k8,rfl,HD8,HB8,HC8⟩;first | (have HA8:Hid (Blk w8 W2.heap.size _ _):=hd_newd HB8.out;have HL8:Hid (W2.heap.size<=W2.heap.size):=Nat.le_refl _) | (have HA8:Hid (Blk w8 W2.drew.heap.size _ _):=hd_new HB8.out;have HL8:Hid (W2.heap.size<=W2.drew.heap.size):=(Below.refl W2.heap.size W2).drew.size) | have FLAG:(0:Nat)=0:=rfl)
    refine hK.out _ _ ?_ (fun hHeld=>?_)
    ·exact HC8
    clear hK K
    try simp only[Act.put,sA,sB,sC]
    refine tp 15 ?_;refine tp 16 ?_;refine tp 17 ?_;refine tr 18 (fun K hK=>?_)
    go_simp
    refine hK.out _ _ ?_ (fun hHeld=>?_)
    ·first | exact hid_alloc HC8 _ | exact(by first | assumption | exact Lib.hid ((Below.refl _ _).drew) | exact hid_drew_alloc _ _ | exact hid_alloc (by assumption) _)
    clear hK K
    try simp only[Act.put,sA,sB,sC]
    refine tr 19 (fun K hK=>?_)
    (first | (have zz:(0:Nat)=0:=FLAG;clear zz;go_simp) | (have cz:=HA8.out.cell 0;have fz:=HA8.out.frozen 0;go_simp))
    refine hK.out _ _ ?_ (fun hHeld=>?_)
    ·first | exact hd_set HC8 HL8 | exact hid_alloc HC8 _
    clear hK K
    try simp only[Act.put,sA,sB,sC]
    refine tp 20 ?_;refine wpAnyH_done (by kernel_rfl) ?_ _
    (go_wp2;go_meet;first | exact⟨_,_,_,rfl,rfl,dgv_set HA8 HD8,hd_set HC8 HL8,HL8⟩ | exact⟨_,_,_,rfl,rfl,dgv_new HD8,hid_alloc HC8 _,Lib.hid HC8.out.size⟩)
   ·skip
    go_simp
    refine hK.out _ _ ?_ (fun hHeld=>?_)
    ·first | exact hid_alloc HC8 _ | exact(by first | assumption | exact Lib.hid ((Below.refl _ _).drew) | exact hid_drew_alloc _ _ | exact hid_alloc (by assumption) _)
    clear hK K
    try simp only[Act.put,sA,sB,sC]
    refine tr 14 (fun K hK=>?_)
    (go_simp;go_at_call 87;refine(HBD.out _ (by first | assumption | exact Lib.hid ((Below.refl _ _).drew) | exact hid_drew_alloc _ _ | exact hid_alloc (by assumption) _)).mono ?_;rintro e w8 ⟨a8,k8,rfl,HD8,HB8,HC8⟩;first | (have HA8:Hid (Blk w8 W2.heap.size _ _):=hd_newd HB8.out;have HL8:Hid (W2.heap.size<=W2.heap.size):=Nat.le_refl _) | (have HA8:Hid (Blk w8 W2.drew.heap.size _ _):=hd_new HB8.out;have HL8:Hid (W2.heap.size<=W2.drew.heap.size):=(Below.refl W2.heap.size W2).drew.size) | have FLAG:(0:Nat)=0:=rfl)
    refine hK.out _ _ ?_ (fun hHeld=>?_)
    ·exact HC8
    clear hK K
    try simp only[Act.put,sA,sB,sC]
    refine tp 15 ?_;refine tp 16 ?_;refine tp 17 ?_;refine tr 19 (fun K hK=>?_)
    (first | (have zz:(0:Nat)=0:=FLAG;clear zz;go_simp) | (have cz:=HA8.out.cell 0;have fz:=HA8.out.frozen 0;go_simp))
    refine hK.out _ _ ?_ (fun hHeld=>?_)
    ·first | exact hd_set HC8 HL8 | exact hid_alloc HC8 _
    clear hK K
    try simp only[Act.put,sA,sB,sC]
    refine tp 20 ?_;refine wpAnyH_done (by kernel_rfl) ?_ _
    (go_wp2;go_meet;first | exact⟨_,_,_,rfl,rfl,dgv_set HA8 HD8,hd_set HC8 HL8,HL8⟩ | exact⟨_,_,_,rfl,rfl,dgv_new HD8,hid_alloc HC8 _,Lib.hid HC8.out.size⟩)
  case rest=>
   obtain⟨X,a,k,rfl,rfl,HV,HBX,HLX⟩:=hcut;have hsz2:W2.heap.size=W.heap.size+2:=by rw[<-HW2.out];simp
   have R4:Hid (Blk W2 W.heap.size 92 #[.slice none 0 0]):=by rw[<-HW2.out];exact(Blk.new W 92 #[.slice none 0 0]).alloc _
   have R5:=Lib.hid (R4.out.below HBX.out);have r5:=R5.out.cell 0;have s5:=R5.out.frozen 0;have z8:=HV.out.box.cell 0;have HSX:=Lib.hid (HS.out.more (HB2.out.trans (HBX.out.mono HB2.out.size)));clear hlk hl r4 x0 x1 x3 HKP HBD;by_cases hz:(buildX d p.cond).2=0
   ·rw[hz]
    have hsd:=HSX.out.more ((Below.refl wc.heap.size wc).drew);obtain⟨l2,hm2,hk2⟩:=hsd.map;have x3:=(HSX.out.court HE.out).cell 3;obtain⟨W3,hrun3,hm3,hu3⟩:=run_store MapIV.key Tryz.underlying86 hm2 (i:Int) (.agg #[.slice a (buildX d p.cond).1.length k]);have HL:=Lib.hid (hsd.learn hm2 hk2 hu3 hm3 (by rw[Int.toNat_natCast,e];exact hz) (by rw[Int.toNat_natCast,e];exact(HV.out.dg.below ((Below.refl wc.heap.size wc).drew)).mono (by exact((Below.refl wc.heap.size wc).drew).size)));have hbd:=(Below.refl wc.heap.size wc).drew;have hs3:wc.heap.size<=W3.heap.size:=by rw[hu3.size];exact hbd.size
    have HD3:=Lib.hid (show DgIn W3 W3.heap.size _ _ from((HV.out.dg.below hbd).upd hm2 hu3).mono hs3);have HB3:Hid (Blk W3 X 92 #[.slice a (buildX d p.cond).1.length k]):=(hu3.block X (by have:=HLX.out;omega)).trans (HV.out.box.below hbd);have HR3:Hid (Blk W3 W.heap.size 92 #[.slice none 0 0]):=(hu3.block W.heap.size (by omega)).trans (R5.out.below hbd);have HK3:=Lib.hid (((StepK.of_below (KB:=KB) (HB2.out.trans (HBX.out.mono HB2.out.size))).trans (StepK.of_below hbd)).trans (StepK.of_upd hu3));clear hm3 hu3 hsd hm2 hk2 hbd;go_upto_region 6 with(fail)
    go_region
    all_goals
     have z9:=HB3.out.cell 0;have s9:=HR3.out.frozen 0;have r9:=HR3.out.cell 0;clear z8 r5 s5 x3;go_wp2;have hcs:=(HR3.out.set 0 (.slice a (buildX d p.cond).1.length k)).cell 0;refine bodyPost_ret (by simp[results,Tryz.results68,go_sem,hcs];try rfl) rfl ?_;exact⟨_,_,by rw[hz],by rw[World.size_setCell];exact Lib.hid (HD3.out.set HR3.out _),HL.out.put HR3.out (by have:=HS.out.size;omega) (by omega) _,HK3.out.put (Nat.le_refl _) _⟩
   ·have hz2:((buildX d p.cond).2==0)=false:=by simpa using hz
    have HZ:Hid (∃x,(buildX d p.cond).2=x):=⟨_,rfl⟩;go_wp2;have hcs:=(R5.out.set 0 (.slice a (buildX d p.cond).1.length k)).cell 0;refine bodyPost_ret (by simp[results,Tryz.results68,go_sem,hcs];try rfl) rfl ?_;have hbf:Below W.heap.size W (wc.setCell ⟨W.heap.size,0,none⟩ (.slice a (buildX d p.cond).1.length k)):=(HB2.out.trans (HBX.out.mono HB2.out.size)).setCell (Nat.le_refl _) _;exact⟨_,_,rfl,by rw[World.size_setCell];exact Lib.hid (HV.out.dg.set R5.out _),HS.out.more hbf,StepK.of_below hbf⟩
end
end Go.Proofs.YtmafmhlfjficmaaGreatDoor
