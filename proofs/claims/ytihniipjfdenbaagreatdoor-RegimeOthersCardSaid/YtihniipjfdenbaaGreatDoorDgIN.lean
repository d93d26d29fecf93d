/- The walk of (*maker).node: the place of a node in the table. A bound on the table. -/
import Derived.Test.YtihniipjfdenbaaGreatDoorDgWrite
set_option maxRecDepth 100000
set_option maxHeartbeats 4000000
namespace Go.Proofs.YtihniipjfdenbaaGreatDoor
open Go.RowKit
theorem nodeInfo :(Tryz.prog.info? 106).map (fun i=>(i.zero,i.size,i.bytes))=some (some (.agg #[.int .i64 0,.slice none 0 0,.slice none 0 0,.bool false]),4,64):=by kernel_rfl
theorem MapSI.key :KeyLaw Value.string Tryz.prog 9:=keyStr Tryz.underlying9
theorem zero_int3 :∀w,(zeroValue 3).run Tryz.prog w=.ok (.int .i64 0) w:=Tryz.zeroValue3
structure MkM (W : World) (H mb : Nat) (S : List Nat) (t : List Dn) (v : Value) (ab : Nat) (xs : List DnA) : Prop where
 ge:H<=mb
 blk:Blk W mb 132 #[v,.map (some ab)]
 row:W.ownsRow H 106 4 v xs.length (xs.flatMap DnA.cells)
 nodes:xs.map (·.n)=t
 ok:∀x∈xs,x.Ok W H S
 abge:H<=ab
 map:MapIs Value.string (Value.int .i64) W ab (keysL t)
theorem MkM.is {W:World}{H mb:Nat}{S:List Nat}{t:List Dn}{v:Value}{ab:Nat}{xs:List DnA}(h:MkM W H mb S t v ab xs)(hl:t.length<=1000000):MkIs W H mb S t:=
 ⟨h.ge,⟨v,some ab,xs,h.blk,h.row,h.nodes,h.ok,.inr ⟨ab,rfl,h.abge,h.map⟩⟩,hl⟩
theorem MkM.below {W W':World}{H mb:Nat}{S:List Nat}{t:List Dn}{v:Value}{ab:Nat}{xs:List DnA}(h:MkM W H mb S t v ab xs){n:Nat}(hb:Below n W W')(hn:W.heap.size<=n):MkM W' H mb S t v ab xs:=
 ⟨h.ge,(hb.block mb (by have:=h.blk.lt;omega)).trans h.blk,own_block h.row (fun g hg=>hb.block g (by have:=(h.row.lt g hg).2;omega)),h.nodes,fun x hx=>(h.ok x hx).step (MkS.of_below hb hn),h.abge,h.map.below hb (by have:=h.map.lt;omega)⟩
theorem grown_set (W:World)(b i:Nat)(u:Value):W.grownBy (W.setCell ⟨b,i,none⟩ u) (some b):=
 ⟨rfl,rfl,rfl,by simp,fun k _ hk=>heap_setCell_other W ⟨b,i,none⟩ k u (fun e=>hk (by simp[e]))⟩
theorem row_ne {W:World}{H mb:Nat}{v:Value}{n:Nat}{l:List Value}{cs:Array Value}(h2:W.ownsRow H 106 4 v n l)(h1:Blk W mb 132 cs):v.ownBlock=none\/v.ownBlock≠some mb:=by
 rcases h2.2 with⟨rfl,_⟩ | ⟨g,cap,cur,rfl,_,hg,_⟩
 {exact .inl rfl}
 {right;intro e;(have:g=mb:=by simpa[Value.ownBlock]using e);subst this;have h1:W.heap[g]? =_:=h1;rw[hg]at h1;injection h1 with h1;injection h1 with _ h1 _;exact absurd h1 (by decide)}
theorem own_len {W:World}{base e size n:Nat}{v:Value}{xs:List Value}(h:W.ownsRow base e size v n xs):∃a c,v=.slice a n c:=by
 rcases h.2 with⟨rfl,rfl⟩ | ⟨g,cap,cur,rfl,_⟩
 {exact⟨_,_,rfl⟩}
 {exact⟨_,_,rfl⟩}
theorem mks_set {W:World}{H mb:Nat}{S:List Nat}{cs:Array Value}(h1:Blk W mb 132 cs)(hge:H<=mb)(i:Nat)(u:Value):MkS H S W (W.setCell ⟨mb,i,none⟩ u):=
 MkS.of_grown (grown_set W mb i u) fun b e=>by{(cases e);refine⟨hge,.inr fun o ho=>?_⟩;rw[show W.heap[mb]? =_ from h1]at ho;cases ho;rfl}
def MapK (mb:Nat)(W W':World):Prop:=∀b es c,W.heap[b]? =some (.map es c)->W.cell? ⟨mb,1,none⟩≠some (.map (some b))->W'.heap[b]? =some (.map es c)/\ W'.cell? ⟨mb,1,none⟩≠some (.map (some b))
structure Stp (H mb : Nat) (W W' : World) : Prop where
 s:MkS H [] W W'
 k:MapK mb W W'
theorem Stp.trans {H mb:Nat}{W W' W'':World}(h:Stp H mb W W')(k:Stp H mb W' W''):Stp H mb W W'':=
 ⟨h.s.trans k.s,fun b es c hb hne=>let⟨h1,h2⟩:=h.k b es c hb hne;k.k b es c h1 h2⟩
theorem Stp.of_below {H mb:Nat}{W W':World}(hb:Below W.heap.size W W')(hmb:mb<W.heap.size):Stp H mb W W':=
 ⟨MkS.of_below hb (Nat.le_refl _),fun b es c h hne=>⟨(hb.block b (heap_lt h)).trans h,by rw[hb.cell (p:=⟨mb,1,none⟩) hmb];exact hne⟩⟩
theorem mk_start {W:World}{H mb:Nat}{S:List Nat}{v:Value}{xs:List DnA}(hge:H<=mb)(h1:Blk W mb 132 #[v,.map none])(h2:W.ownsRow H 106 4 v xs.length (xs.flatMap DnA.cells))(h3:xs.map (·.n)=[])(h4:∀x∈xs,x.Ok W H S)(o:Obj):
  MkM (((W.setCell ⟨mb,1,none⟩ (.map (some (W.heap.size+1)))).alloc o).alloc (.map #[] 0)) H mb S [] v (W.heap.size+1) xs/\ Stp H mb W (((W.setCell ⟨mb,1,none⟩ (.map (some (W.heap.size+1)))).alloc o).alloc (.map #[] 0)):=by
 have k1:=mks_set (S:=S) h1 hge 1 (.map (some (W.heap.size+1)));have k0:=mks_set (S:=[]) h1 hge 1 (.map (some (W.heap.size+1)));have hHs:H<=W.heap.size:=by have:=h1.lt;omega
 refine⟨⟨hge,Blk.alloc (Blk.alloc (h1.set 1 _) _) _,((h2.kept (grown_set W mb 1 _) (row_ne h2 h1)).alloc _).alloc _,h3,fun x hx=>(((h4 x hx).step k1).step (MkS.alloc (MkS.refl _ _ _) _)).step (MkS.alloc (MkS.refl _ _ _) _),by omega,?_⟩,(k0.alloc _).alloc _,fun b es c hb _=>?_⟩
 rotate_left
 {have hlt:=heap_lt hb;have hne:b≠mb:=by{rintro rfl;rw[show W.heap[b]? =_ from h1]at hb;cases hb};refine⟨by rw[Below.heap_alloc _ _ _ (by simp;omega),Below.heap_alloc _ _ _ (by simpa using hlt),Below.heap_setCell _ _ _ b hne];exact hb,?_⟩;have q:=(Blk.alloc (Blk.alloc (h1.set 1 (.map (some (W.heap.size+1)))) o) (.map #[] 0)).cell 1;rw[q];intro e;simp at e;omega}
 have:=MapIs.made (ek:=Value.string) (ev:=Value.int .i64) ((W.setCell ⟨mb,1,none⟩ (.map (some (W.heap.size+1)))).alloc o)
 simpa[keysL]using this
theorem map_soft {W:World}{b:Nat}{l:List (ByteArray×Int)}(h:MapIs Value.string (Value.int .i64) W b l):∀o,W.heap[b]? =some o->solid o=false:=by
 obtain⟨es,c,h1,_⟩:=h;intro o ho;rw[h1]at ho;cases ho;rfl
theorem row_soft {W:World}{H:Nat}{v:Value}{n:Nat}{l:List Value}(h2:W.ownsRow H 106 4 v n l):∀b,v.ownBlock=some b->H<=b/\ ∀o,W.heap[b]? =some o->solid o=false:=by
 intro b hb;rcases h2.2 with⟨rfl,_⟩ | ⟨g,cap,cur,rfl,h3,hg,_⟩
 {simp[Value.ownBlock]at hb}
 {(have:g=b:=by simpa[Value.ownBlock]using hb);subst this;exact⟨h3,fun o ho=>by rw[hg]at ho;cases ho;rfl⟩}
theorem ne_map {W:World}{b ab:Nat}{l:List (ByteArray×Int)}(h:MapIs Value.string (Value.int .i64) W ab l){cs:Array Value}{t:TypeId}{z:Nat×Nat}(hb:W.heap[b]? =some (.cells cs t z)):b≠ab:=by
 rintro rfl;obtain⟨es,c,h1,_⟩:=h;rw[h1]at hb;cases hb
theorem mk_push {wc W2 w1:World}{H mb:Nat}{S:List Nat}{t:List Dn}{v:Value}{ab:Nat}{xs:List DnA}(hM:MkM wc H mb S t v ab xs){x:DnA}(hx:x.Ok wc H S)(hn:x.n∉t)
  (hm2:MapIs Value.string (Value.int .i64) W2 ab (ins (keysL t) (writeD x.n) (t.length:Int))) (hu2:Upd ab wc W2) (o:Obj) {gg cap:Nat}
  (hown:w1.ownsRow H 106 4 (.slice (some ⟨gg,0,none⟩) (xs.length+1) cap) (xs.length+1) (xs.flatMap DnA.cells++x.cells)) (hg:(W2.alloc o).drew.grownBy w1 v.ownBlock):
  MkM (w1.setCell ⟨mb,0,none⟩ (.slice (some ⟨gg,0,none⟩) (xs.length+1) cap)) H mb S (t++[x.n]) (.slice (some ⟨gg,0,none⟩) (xs.length+1) cap) ab (xs++[x])/\ Stp H mb wc (w1.setCell ⟨mb,0,none⟩ (.slice (some ⟨gg,0,none⟩) (xs.length+1) cap)):=by
 have ha:H<=ab/\ ∀o,wc.heap[ab]? =some o->solid o=false:=⟨hM.abge,map_soft hM.map⟩;have s1:∀S,MkS H S wc W2:=fun S=>MkS.of_upd hu2 ⟨ha.1,.inr ha.2⟩
 have g1:wc.grownBy W2 (some ab):=⟨hu2.os,hu2.tape,hu2.output,Nat.le_of_eq hu2.size.symm,fun k _ hne=>hu2.block k (fun e=>hne (by rw[e]))⟩
 have hrow:v.ownBlock=none\/v.ownBlock≠some ab:=by{(rcases hM.row.2 with⟨rfl,_⟩ | ⟨g,c,cur,rfl,_,hgb,_⟩);{exact .inl rfl};{right;intro e;(have:g=ab:=by simpa[Value.ownBlock]using e);exact ne_map hM.map hgb this}}
 have hM2row:=hM.row.kept g1 hrow;have hb2:Blk W2 mb 132 #[v,.map (some ab)]:=(hu2.block mb (ne_map hM.map hM.blk)).trans hM.blk;have s2:∀S,MkS H S W2 ((W2.alloc o).drew):=fun S=>MkS.of_below (((Below.refl W2.heap.size W2).alloc (Nat.le_refl _) o).drew) (Nat.le_refl _)
 have hb3:Blk ((W2.alloc o).drew) mb 132 #[v,.map (some ab)]:=Blk.alloc hb2 o;have hr3:((W2.alloc o).drew).ownsRow H 106 4 v xs.length (xs.flatMap DnA.cells):=(hM2row.alloc o).drew
 have s3:∀S,MkS H S ((W2.alloc o).drew) w1:=fun S=>MkS.of_grown hg fun b e=>by{obtain⟨h1,h2⟩:=row_soft hr3 b e;exact⟨h1,.inr h2⟩}
 have hb4:Blk w1 mb 132 #[v,.map (some ab)]:=by{(refine Blk.grown hb3 hg fun e=>?_);(rcases row_ne hr3 hb3 with h | h);{rw[h]at e;cases e};{exact h e.symm}}
 have s4:∀S,MkS H S w1 (w1.setCell ⟨mb,0,none⟩ (.slice (some ⟨gg,0,none⟩) (xs.length+1) cap)):=fun S=>mks_set hb4 hM.ge 0 _
 have sAll:∀S,MkS H S wc (w1.setCell ⟨mb,0,none⟩ (.slice (some ⟨gg,0,none⟩) (xs.length+1) cap)):=fun S=>(((s1 S).trans (s2 S)).trans (s3 S)).trans (s4 S)
 refine⟨⟨hM.ge,hb4.set 0 _,?_,by rw[List.map_append,hM.nodes];rfl,?_,hM.abge,?_⟩,sAll [],fun b es c hb hne=>?_⟩
 {rw[List.length_append,List.flatMap_append];have:=hown.kept (grown_set w1 mb 0 (.slice (some ⟨gg,0,none⟩) (xs.length+1) cap)) (row_ne hown hb4);simpa using this}
 {intro y hy;(rcases List.mem_append.1 hy with hy | hy);{exact(hM.ok y hy).step (sAll S)};{rw[List.mem_singleton]at hy;rw[hy];exact hx.step (sAll S)}}
 {have hm3:MapIs Value.string (Value.int .i64) ((W2.alloc o).drew) ab (ins (keysL t) (writeD x.n) (t.length:Int)):=hm2.alloc o;(have hne1:some ab≠v.ownBlock:=fun e=>by{(rcases hrow with h | h);{rw[h]at e;cases e};{exact h e.symm}});have hm4:MapIs Value.string (Value.int .i64) w1 ab (ins (keysL t) (writeD x.n) (t.length:Int)):=by{obtain⟨es,c,h1,h2⟩:=hm3;exact⟨es,c,(hg.block ab (heap_lt h1) hne1).trans h1,h2⟩};have hm5:MapIs Value.string (Value.int .i64) (w1.setCell ⟨mb,0,none⟩ (.slice (some ⟨gg,0,none⟩) (xs.length+1) cap)) ab (ins (keysL t) (writeD x.n) (t.length:Int)):=by{obtain⟨es,c,h1,h2⟩:=hm4;exact⟨es,c,(Below.heap_setCell w1 ⟨mb,0,none⟩ _ ab (fun e=>by have:=ne_map (b:=mb) ⟨es,c,h1,h2⟩ hb4;exact this e.symm)).trans h1,h2⟩};rw[keysL_snoc];rw[ins_none _ _ _ (by rw[keys_look,if_neg hn])]at hm5;exact hm5}
 ·have hba:b≠ab:=fun e=>hne (by rw[e];exact hM.blk.cell 1)
  have hbm:b≠mb:=by{rintro rfl;rw[show wc.heap[b]? =_ from hM.blk]at hb;cases hb}
  have hb2':((W2.alloc o).drew).heap[b]? =some (.map es c):=by
   show(W2.alloc o).heap[b]? =_
   rw[Below.heap_alloc _ _ _ (by rw[hu2.size];exact heap_lt hb),hu2.block b hba];exact hb
  have hbr:some b≠v.ownBlock:=fun e=>by{(rcases hM.row.2 with⟨rfl,_⟩ | ⟨g,c,cur,rfl,_,hgb,_⟩);{cases e};{(have:b=g:=by simpa[Value.ownBlock]using e);subst this;rw[hgb]at hb;cases hb}}
  refine⟨by rw[Below.heap_setCell _ _ _ b hbm,hg.block b (heap_lt hb2') hbr];exact hb2',?_⟩;have q:=(hb4.set 0 (.slice (some ⟨gg,0,none⟩) (xs.length+1) cap)).cell 1;rw[q];intro e;simp at e;exact hba e.symm
theorem uniq_any (H mb:Nat)(S:List Nat)(t:List Dn)(n:Dn)(vc vk:Value)(W:World)(hm:MkIs W H mb S t)(hc:IntsF W H S n.cuts vc)(hk:IntsF W H S n.kids vk)(hl:t.length<=900000):
  Calls Tryz.prog 153 #[.pointer (some ⟨mb,0,none⟩),.string (writeD n),.agg #[.int .i64 n.fact,vc,vk,.bool n.leaf]] W fun e W'=>e=.returned (.int .i64 (addD t n).2)/\ MkIs W' H mb S (addD t n).1/\ Stp H mb W W':=by
 obtain⟨i0,ib0,ib1,ib2,ib3⟩:=info_parts nodeInfo;obtain⟨ac,cc,rfl,c1,c2,_⟩:=SlIn.shape hc.1;obtain⟨ak,ck,rfl,k1,k2,_⟩:=SlIn.shape hk.1;obtain⟨hge,⟨v,mo,xs,h1,h2,h3,h4,h5⟩,h6⟩:=hm;have hlt:=h1.lt;have m0:=h1.cell 0;have m1:=h1.cell 1;have f1:=h1.frozen 1;have hmk:=@run_makeMap Tryz.prog;have hq:=fun(w:World) (r:Option Nat)=>run_eql_map_nil (P:=Tryz.prog) w 128 9 3 r Tryz.underlying128
 go_enter Tryz.func153,Tryz.ntmps153;have HM:Hid (∀ab,MapIs Value.string (Value.int .i64) W ab (keysL t)->H<=ab->mo=some ab->MkM W H mb S t v ab xs):=fun ab hm ha e=>⟨hge,by rw[<-e];exact h1,h2,h3,h4,ha,hm⟩
 have H1:=Lib.hid h1;have H2:=Lib.hid h2;have H4:=Lib.hid h4;have H5:=Lib.hid h5;have HC:=Lib.hid hc;have HK:=Lib.hid hk;clear h1 h2 h4 h5 hc hk
 go_upto_if 13 with(fail)
 go_cut[] (fun wx=>Hid (Stp H mb W wx/\ wx.cell? ⟨W.heap.size,0,none⟩=some (.int .i64 n.fact)/\ wx.cell? ⟨W.heap.size,1,none⟩=some (.slice ac n.cuts.length cc)/\ wx.cell? ⟨W.heap.size,2,none⟩=some (.slice ak n.kids.length ck)/\ wx.cell? ⟨W.heap.size,3,none⟩=some (.bool n.leaf)/\ W.heap.size<wx.heap.size/\ ∃ab,MkM wx H mb S t v ab xs))
 case first=>
  have H6:=Lib.hid h6
  have hKs:Hid (∀wx:World,Below W.heap.size W wx->Blk wx W.heap.size 106 #[.int .i64 n.fact,.slice ac n.cuts.length cc,.slice ak n.kids.length ck,.bool n.leaf]->Stp H mb W wx/\ wx.cell? ⟨W.heap.size,0,none⟩=some (.int .i64 n.fact)/\ wx.cell? ⟨W.heap.size,1,none⟩=some (.slice ac n.cuts.length cc)/\ wx.cell? ⟨W.heap.size,2,none⟩=some (.slice ak n.kids.length ck)/\ wx.cell? ⟨W.heap.size,3,none⟩=some (.bool n.leaf)/\ W.heap.size<wx.heap.size):=
   fun wx hb hk=>⟨Stp.of_below hb hlt,hk.cell 0,hk.cell 1,hk.cell 2,hk.cell 3,hk.lt⟩
  cases mo with| none=>{go_wp2;go_meet;(rcases H5.out with⟨_,rfl⟩ | ⟨ab,e,_⟩);{obtain⟨k1,k2⟩:=mk_start hge H1.out H2.out h3 H4.out (.cells #[.int .i64 n.fact,.slice ac n.cuts.length cc,.slice ak n.kids.length ck,.bool n.leaf] 106);have hb:Blk (((W.setCell ⟨mb,1,none⟩ (.map (some (W.heap.size+1)))).alloc (.cells #[.int .i64 n.fact,.slice ac n.cuts.length cc,.slice ak n.kids.length ck,.bool n.leaf] 106)).alloc (.map #[] 0)) W.heap.size 106 #[.int .i64 n.fact,.slice ac n.cuts.length cc,.slice ak n.kids.length ck,.bool n.leaf]:=by{have:=Blk.alloc (Blk.new (W.setCell ⟨mb,1,none⟩ (.map (some (W.heap.size+1)))) 106 #[.int .i64 n.fact,.slice ac n.cuts.length cc,.slice ak n.kids.length ck,.bool n.leaf]) (.map #[] 0);simpa using this};exact⟨k2,hb.cell 0,hb.cell 1,hb.cell 2,hb.cell 3,hb.lt,_,k1⟩};{cases e}}| some ab=>{go_wp2;go_meet;(rcases H5.out with⟨e,_⟩ | ⟨ab',e,h5,h7⟩);{cases e};{(cases e);have hb:Below W.heap.size W (W.alloc (.cells #[.int .i64 n.fact,.slice ac n.cuts.length cc,.slice ak n.kids.length ck,.bool n.leaf] 106)):=(Below.refl _ _).alloc (Nat.le_refl _) _;obtain⟨q0,q1,q2,q3,q4,q5⟩:=hKs.out _ hb (Blk.new _ _ _);exact⟨q0,q1,q2,q3,q4,q5,_,(HM.out ab h7 h5 rfl).below hb (Nat.le_refl _)⟩}}
 case rest=>
  obtain⟨q0,q1,q2,q3,q4,q5,ab,hM⟩:=hcut.out;have hcx:=IntsF.step HC.out (q0.s.more (by simp));have hkx:=IntsF.step HK.out (q0.s.more (by simp));have hlk:=run_look_ok MapSI.key Tryz.underlying128 zero_int3 hM.map (writeD n);rw[keys_look]at hlk;have m0:=hM.blk.cell 0;have m1:=hM.blk.cell 1;have hltc:=hM.blk.lt;have HQ:=Lib.hid q0;clear H1 H2 H4 H5 HC HK HM hcut q0 f1 hq;by_cases hn:n∈t
  {rw[if_pos hn]at hlk;have HA:=Lib.hid (show addD t n=(t,t.idxOf n) by unfold addD;rw[if_pos hn]);have HM:=Lib.hid hM;clear hM hn hcx hkx;go_wp2;go_ret;rw[HA.out];exact⟨rfl,HM.out.is h6,HQ.out⟩}
  ·rw[if_neg hn]at hlk
   have HA:=Lib.hid (show addD t n=(t++[n],t.length) by unfold addD;rw[if_neg hn]);have hxl:xs.length=t.length:=by rw[<-hM.nodes,List.length_map]
   obtain⟨W2,hrun2,hm2,hu2⟩:=run_store MapSI.key Tryz.underlying128 hM.map (writeD n) (t.length:Int);have hb2:Blk W2 mb 132 #[v,.map (some ab)]:=(hu2.block mb (ne_map hM.map hM.blk)).trans hM.blk;have n0:=hb2.cell 0;have n1:=hb2.cell 1;have hlt2:=hb2.lt
   have hbn:wc.heap[W.heap.size]? ≠none:=by{intro e;rw[Array.getElem?_eq_none_iff]at e;omega}
   have hwn:W.heap.size≠ab:=by{rintro rfl;obtain⟨es,c,h1,_⟩:=hM.map;simp only[World.cell?,h1]at q1;cases q1}
   have p1:=(hu2.cell (p:=⟨W.heap.size,0,none⟩) hwn).trans q1;have p2:=(hu2.cell (p:=⟨W.heap.size,1,none⟩) hwn).trans q2;have p3:=(hu2.cell (p:=⟨W.heap.size,2,none⟩) hwn).trans q3;have p4:=(hu2.cell (p:=⟨W.heap.size,3,none⟩) hwn).trans q4;have g1:wc.grownBy W2 (some ab):=⟨hu2.os,hu2.tape,hu2.output,Nat.le_of_eq hu2.size.symm,fun k _ hne=>hu2.block k (fun e=>hne (by rw[e]))⟩
   have hrow2:=hM.row.kept g1 (by
    rcases hM.row.2 with⟨rfl,_⟩ | ⟨g,c,cur,rfl,_,hgb,_⟩
    {exact .inl rfl}
    ·right
     intro e
     have:g=ab:=by simpa[Value.ownBlock]using e
     exact ne_map hM.map hgb this)
   have HROW:=Lib.hid hrow2;have HPUSH:=Lib.hid (fun o gg cap w1 hown hg=>mk_push (x:=⟨n,.slice ac n.cuts.length cc,.slice ak n.kids.length ck⟩) hM ⟨hcx,hkx⟩ hn hm2 hu2 o (gg:=gg) (cap:=cap) (w1:=w1) hown hg);obtain⟨va,vcap,hvs⟩:=own_len hM.row;have hge2:=hM.ge;clear hM hcx hkx hn hm2 hu2 hbn g1 hrow2 q1 q2 q3 q4;rw[hxl]at hvs HROW HPUSH;subst hvs;clear hxl;have hH2:H<=W2.heap.size:=by omega
   have HB4:Hid (∀w1,(W2.alloc (.cells #[.int .i64 n.fact,.slice ac n.cuts.length cc,.slice ak n.kids.length ck,.bool n.leaf] 106)).drew.grownBy w1 (Value.slice va t.length vcap).ownBlock->Blk w1 mb 132 #[.slice va t.length vcap,.map (some ab)]):=by{intro w1 hg;(refine Blk.grown (W:=(W2.alloc (.cells #[.int .i64 n.fact,.slice ac n.cuts.length cc,.slice ak n.kids.length ck,.bool n.leaf] 106)).drew) (Blk.alloc hb2 _) hg fun e=>?_);(rcases row_ne HROW.out hb2 with h | h);{rw[h]at e;cases e};{exact h e.symm}}
   clear hb2;go_upto_region 7 with(fail)
   go_region_law (refine step_append_lies _ (by rfl) _ _ _ (by rfl) H 106 i0 _ 4 64 Tryz.underlying73 ib0 ib1 ib2 ib3 rfl (by omega) (.slice va t.length vcap) t.length _ (by rfl) ((HROW.out.alloc _).drew) ⟨W2.heap.size,0,none⟩ 1 1 (#[.int .i64 n.fact,.slice ac n.cuts.length cc,.slice ak n.kids.length ck,.bool n.leaf]).toList (by rfl) (by rfl) (World.news_of_block (cs:=#[.int .i64 n.fact,.slice ac n.cuts.length cc,.slice ak n.kids.length ck,.bool n.leaf]) (t:=106) (fr:=(0,0)) (heap_alloc_new W2 _)) (by simp[Value.oneCell']) (by omega) (by unfold maxLen;omega) (by omega) (by simp;omega) (W2.heap.size+1) (by simp) ?_;intro gg cap w1 hown1 hgrow hat hlt1;have hb4:=HB4.out w1 hgrow;have s0:=hb4.cell 0;have z0:=hb4.frozen 0)
   all_goals
    obtain⟨k1,k2⟩:=HPUSH.out _ gg cap w1 hown1 hgrow;have K1:=Lib.hid k1;have K2:=Lib.hid k2;clear k1 k2 hown1 hgrow hat hb4 s0 z0;go_wp2;go_ret;rw[HA.out];exact⟨rfl,K1.out.is (by rw[List.length_append,List.length_singleton];omega),HQ.out.trans K2.out⟩
abbrev TabH (H:Nat)(W:World):Prop:=Lib.TabBelow Tryz.prog H W "internal/strconv.uint64pow10" .u64 Lib.pow10Tab
theorem TabH.step {H:Nat}{S:List Nat}{W W':World}(h:TabH H W)(hH:H<=W.heap.size)(hs:MkS H S W W'):TabH H W':=h.on (hs.below hH)
structure Dn64 (n : Dn) : Prop where
 fact:W64 n.fact
 cuts:∀x∈n.cuts,W64 x
 kids:∀x∈n.kids,W64 x
 lc:n.cuts.length<=1000000
 lk:n.kids.length<=1000001
theorem node_any (H mb:Nat)(S:List Nat)(t:List Dn)(n:Dn)(vc vk:Value)(W:World)(hm:MkIs W H mb S t)(hc:IntsF W H S n.cuts vc)(hk:IntsF W H S n.kids vk)(hl:t.length<=900000)(hn:Dn64 n)(hT:TabH H W):
  Calls Tryz.prog 106 #[.pointer (some ⟨mb,0,none⟩),.agg #[.int .i64 n.fact,vc,vk,.bool n.leaf]] W fun e W'=>e=.returned (.int .i64 (addD t n).2)/\ MkIs W' H mb S (addD t n).1/\ Stp H mb W W':=by
 obtain⟨ac,cc,rfl,c1,c2,_⟩:=SlIn.shape hc.1;obtain⟨ak,ck,rfl,k1,k2,_⟩:=SlIn.shape hk.1;have hlt:mb<W.heap.size:=by obtain⟨_,⟨v,mo,xs,h1,_⟩,_⟩:=hm;exact h1.lt
 have hHs:H<=W.heap.size:=by have:=hm.ge;omega
 have hB1:Below W.heap.size W (W.alloc (.cells #[.int .i64 n.fact,.slice ac n.cuts.length cc,.slice ak n.kids.length ck,.bool n.leaf] 106)):=(Below.refl _ _).alloc (Nat.le_refl _) _
 have HX:Hid (∀w',Below (W.heap.size+1) (W.alloc (.cells #[.int .i64 n.fact,.slice ac n.cuts.length cc,.slice ak n.kids.length ck,.bool n.leaf] 106)) w'->Calls Tryz.prog 154 #[.agg #[.int .i64 n.fact,.slice ac n.cuts.length cc,.slice ak n.kids.length ck,.bool n.leaf]] w' fun e w''=>e=.returned (.string (writeD n))/\ Below w'.heap.size w' w''):=by{intro w' hb;have s0:MkS H S W w':=(MkS.of_below hB1 (Nat.le_refl _)).trans (MkS.of_below hb (by simp));have c':=(hc.step s0).1;have k':=(hk.step s0).1;exact write_any n _ _ w' c' k' hn.fact hn.cuts hn.kids hn.lc hn.lk (hT.step hHs s0).here}
 have HY:Hid (∀w',Below (W.heap.size+1) (W.alloc (.cells #[.int .i64 n.fact,.slice ac n.cuts.length cc,.slice ak n.kids.length ck,.bool n.leaf] 106)) w'->Calls Tryz.prog 153 #[.pointer (some ⟨mb,0,none⟩),.string (writeD n),.agg #[.int .i64 n.fact,.slice ac n.cuts.length cc,.slice ak n.kids.length ck,.bool n.leaf]] w' fun e w''=>e=.returned (.int .i64 (addD t n).2)/\ Hid (MkIs w'' H mb S (addD t n).1/\ Stp H mb W w'')):=by{intro w' hb;(have s0:∀S,MkS H S W w':=fun S=>(MkS.of_below hB1 (Nat.le_refl _)).trans (MkS.of_below hb (by simp)));refine(uniq_any H mb S t n _ _ w' ((hm.below hB1 (Nat.le_refl _)).below hb (by simp)) (hc.step (s0 S)) (hk.step (s0 S)) hl).mono ?_;rintro e w'' ⟨rfl,h1,h2⟩;exact⟨rfl,h1,((Stp.of_below hB1 hlt).trans (Stp.of_below (hb.mono (by simp)) (by simp;omega))).trans h2⟩}
 clear hm hc hk hB1 hn hT;generalize writeD n=text at*
 generalize(addD t n).1=t' at*
 generalize(addD t n).2=k' at*
 go_enter Tryz.func106,Tryz.ntmps106;go_wp2
 go_region_with (first
  | (go_at_call 154;refine(HX.out _ ((Below.refl _ _).drew)).mono ?_;rintro e w2 ⟨rfl,hb2⟩;have HBk:=Lib.hid (((Below.refl (W.heap.size+1) (W.alloc (.cells #[.int .i64 n.fact,.slice ac n.cuts.length cc,.slice ak n.kids.length ck,.bool n.leaf] 106))).drew).trans (hb2.mono (by simp)));have kb:Blk w2 W.heap.size 106 #[.int .i64 n.fact,.slice ac n.cuts.length cc,.slice ak n.kids.length ck,.bool n.leaf]:=Blk.below (W:=(W.alloc (.cells #[.int .i64 n.fact,.slice ac n.cuts.length cc,.slice ak n.kids.length ck,.bool n.leaf] 106))) (Blk.new W 106 #[.int .i64 n.fact,.slice ac n.cuts.length cc,.slice ak n.kids.length ck,.bool n.leaf]) (HBk.out.mono (by simp));have y0:=kb.cell 0;have y1:=kb.cell 1;have y2:=kb.cell 2;have y3:=kb.cell 3;clear hb2 kb)
  | (go_at_call 153;refine(HY.out _ HBk.out).mono ?_;rintro e w3 ⟨rfl,hb3⟩;clear HBk))
 all_goals
  go_wp2;go_ret;exact⟨rfl,hb3.out⟩
end Go.Proofs.YtihniipjfdenbaaGreatDoor
