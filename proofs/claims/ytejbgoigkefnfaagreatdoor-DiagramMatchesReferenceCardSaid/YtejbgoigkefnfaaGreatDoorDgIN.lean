/- The walk of (*maker).node: the place of a node in the table. A bound on the table. -/
import Derived.Test.YtejbgoigkefnfaaGreatDoorAl
import Derived.Test.YtejbgoigkefnfaaGreatDoorDgWrite
set_option maxRecDepth 100000
set_option maxHeartbeats 4000000
namespace Go.Proofs.YtejbgoigkefnfaaGreatDoor
open Go.RowKit
theorem Qo :(Tryz.prog.info? 56).map (fun i=>(i.zero,i.size,i.bytes))=some (some (.agg #[.int .i64 0,.slice none 0 0,.slice none 0 0,.bool false]),4,64):=by kernel_rfl
theorem QE.key :KeyLaw Value.string Tryz.prog 9:=VH Tryz.underlying9
theorem Dr :∀w,(zeroValue 3).run Tryz.prog w=.ok (.int .i64 0) w:=Tryz.zeroValue3
structure uR (W : World) (H mb : Nat) (S : List Nat) (t : List Dn) (v : Value) (ab : Nat) (xs : List Jh) : Prop where
 ge:H<=mb
 blk:Bb W mb 70 #[v,.map (some ab)]
 row:W.ownsRow H 56 4 v xs.length (xs.flatMap Jh.cells)
 nodes:xs.map (·.n)=t
 ok:∀x∈xs,x.Ok W H S
 yS:H<=ab
 map:We Value.string (Value.int .i64) W ab (cq t)
theorem uR.is {W:World}{H mb:Nat}{S:List Nat}{t:List Dn}{v:Value}{ab:Nat}{xs:List Jh}(h:uR W H mb S t v ab xs)(hl:t.length<=1000000):Pj W H mb S t:=
 ⟨h.ge,⟨v,some ab,xs,h.blk,h.row,h.nodes,h.ok,.inr ⟨ab,rfl,h.yS,h.map⟩⟩,hl⟩
theorem uR.below {W W':World}{H mb:Nat}{S:List Nat}{t:List Dn}{v:Value}{ab:Nat}{xs:List Jh}(h:uR W H mb S t v ab xs){n:Nat}(hb:Below n W W')(hn:W.heap.size<=n):uR W' H mb S t v ab xs:=
 ⟨h.ge,(hb.block mb (by have:=h.blk.lt;omega)).trans h.blk,xi h.row (fun g hg=>hb.block g (by have:=(h.row.lt g hg).2;omega)),h.nodes,fun x hx=>(h.ok x hx).step (ld.Vb hb hn),h.yS,h.map.below hb (by have:=h.map.lt;omega)⟩
theorem Cg (W:World)(b i:Nat)(u:Value):W.grownBy (W.setCell ⟨b,i,none⟩ u) (some b):=
 ⟨rfl,rfl,rfl,la,fun k _ hk=>heap_setCell_other W ⟨b,i,none⟩ k u (fun e=>hk (by simp[e]))⟩
theorem TC {W:World}{H mb:Nat}{v:Value}{n:Nat}{l:List Value}{cs:Array Value}(h2:W.ownsRow H 56 4 v n l)(h1:Bb W mb 70 cs):v.ownBlock=none\/v.ownBlock≠some mb:=by
 rcases h2.2 with⟨rfl,_⟩ | ⟨g,cap,cur,rfl,_,hg,_⟩
 {exact .inl rfl}
 {right;intro e;(have:g=mb:=by simpa[Value.ownBlock]using e);subst this;have h1:W.heap[g]? =_:=h1;rw[hg]at h1;injection h1 with h1;injection h1 with _ h1 _;exact absurd h1 pa}
theorem Wd {W:World}{base e size n:Nat}{v:Value}{xs:List Value}(h:W.ownsRow base e size v n xs):∃a c,v=.slice a n c:=by
 rcases h.2 with⟨rfl,rfl⟩ | ⟨g,cap,cur,rfl,_⟩
 {exact⟨_,_,rfl⟩}
 {exact⟨_,_,rfl⟩}
theorem UC {W:World}{H mb:Nat}{S:List Nat}{cs:Array Value}(h1:Bb W mb 70 cs)(hge:H<=mb)(i:Nat)(u:Value):ld H S W (W.setCell ⟨mb,i,none⟩ u):=
 ld.Ej (Cg W mb i u) fun b e=>by{(cases e);refine⟨hge,.inr fun o ho=>?_⟩;rw[show W.heap[mb]? =_ from h1]at ho;cases ho;rfl}
def aae (mb:Nat)(W W':World):Prop:=∀b es c,W.heap[b]? =some (.map es c)->W.cell? ⟨mb,1,none⟩≠some (.map (some b))->W'.heap[b]? =some (.map es c)/\ W'.cell? ⟨mb,1,none⟩≠some (.map (some b))
structure Vx (H mb : Nat) (W W' : World) : Prop where
 s:ld H [] W W'
 k:aae mb W W'
theorem Vx.trans {H mb:Nat}{W W' GU:World}(h:Vx H mb W W')(k:Vx H mb W' GU):Vx H mb W GU:=
 ⟨h.s.trans k.s,fun b es c hb hne=>let⟨h1,h2⟩:=h.k b es c hb hne;k.k b es c h1 h2⟩
theorem Vx.Vb {H mb:Nat}{W W':World}(hb:Below W.heap.size W W')(C1:mb<W.heap.size):Vx H mb W W':=
 ⟨ld.Vb hb (ja _),fun b es c h hne=>⟨(hb.block b (je h)).trans h,by rw[hb.cell (p:=⟨mb,1,none⟩) C1];exact hne⟩⟩
theorem zO {W:World}{H mb:Nat}{S:List Nat}{v:Value}{xs:List Jh}(hge:H<=mb)(h1:Bb W mb 70 #[v,.map none])(h2:W.ownsRow H 56 4 v xs.length (xs.flatMap Jh.cells))(h3:xs.map (·.n)=[])(h4:∀x∈xs,x.Ok W H S)(o:Obj):
  uR (((W.setCell ⟨mb,1,none⟩ (.map (some (W.heap.size+1)))).alloc o).alloc (.map #[] 0)) H mb S [] v (W.heap.size+1) xs/\ Vx H mb W (((W.setCell ⟨mb,1,none⟩ (.map (some (W.heap.size+1)))).alloc o).alloc (.map #[] 0)):=by
 have k1:=UC (S:=S) h1 hge 1 (.map (some (W.heap.size+1)));have k0:=UC (S:=[]) h1 hge 1 (.map (some (W.heap.size+1)));have nW:H<=W.heap.size:=by have:=h1.lt;omega
 refine⟨⟨hge,Bb.alloc (Bb.alloc (h1.set 1 _) _) _,((h2.kept (Cg W mb 1 _) (TC h2 h1)).alloc _).alloc _,h3,fun x hx=>(((h4 x hx).step k1).step (ld.alloc (ld.refl _ _ _) _)).step (ld.alloc (ld.refl _ _ _) _),ia,?_⟩,(k0.alloc _).alloc _,fun b es c hb _=>?_⟩
 rotate_left
 {have hlt:=je hb;have hne:b≠mb:=by{rintro rfl;rw[show W.heap[b]? =_ from h1]at hb;cases hb};refine⟨by rw[Tb _ _ _ (by simp;omega),Tb _ _ _ (by simpa using hlt),Gc _ _ _ b hne];exact hb,?_⟩;have q:=(Bb.alloc (Bb.alloc (h1.set 1 (.map (some (W.heap.size+1)))) o) (.map #[] 0)).cell 1;rw[q];intro e;simp at e;omega}
 have:=We.made (ek:=Value.string) (ev:=Value.int .i64) ((W.setCell ⟨mb,1,none⟩ (.map (some (W.heap.size+1)))).alloc o)
 simpa[cq]using this
theorem pF {W:World}{b:Nat}{l:List (ByteArray×Int)}(h:We Value.string (Value.int .i64) W b l):∀o,W.heap[b]? =some o->gi o=false:=by
 obtain⟨es,c,h1,_⟩:=h;intro o ho;rw[h1]at ho;cases ho;rfl
theorem Jy {W:World}{H:Nat}{v:Value}{n:Nat}{l:List Value}(h2:W.ownsRow H 56 4 v n l):∀b,v.ownBlock=some b->H<=b/\ ∀o,W.heap[b]? =some o->gi o=false:=by
 intro b hb;rcases h2.2 with⟨rfl,_⟩ | ⟨g,cap,cur,rfl,h3,hg,_⟩
 {simp[Value.ownBlock]at hb}
 {(have:g=b:=by simpa[Value.ownBlock]using hb);subst this;exact⟨h3,fun o ho=>by rw[hg]at ho;cases ho;rfl⟩}
theorem yv {W:World}{b ab:Nat}{l:List (ByteArray×Int)}(h:We Value.string (Value.int .i64) W ab l){cs:Array Value}{t:TypeId}{z:Nat×Nat}(hb:W.heap[b]? =some (.cells cs t z)):b≠ab:=by
 rintro rfl;obtain⟨es,c,h1,_⟩:=h;rw[h1]at hb;cases hb
theorem zS {wc W2 w1:World}{H mb:Nat}{S:List Nat}{t:List Dn}{v:Value}{ab:Nat}{xs:List Jh}(hM:uR wc H mb S t v ab xs){x:Jh}(hx:x.Ok wc H S)(hn:x.n∉t)
  (hm2:We Value.string (Value.int .i64) W2 ab (ins (cq t) (Ah x.n) (t.length:Int))) (lu:kA ab wc W2) (o:Obj) {gg cap:Nat}
  (hown:w1.ownsRow H 56 4 (.slice (some ⟨gg,0,none⟩) (xs.length+1) cap) (xs.length+1) (xs.flatMap Jh.cells++x.cells)) (hg:(W2.alloc o).drew.grownBy w1 v.ownBlock):
  uR (w1.setCell ⟨mb,0,none⟩ (.slice (some ⟨gg,0,none⟩) (xs.length+1) cap)) H mb S (t++[x.n]) (.slice (some ⟨gg,0,none⟩) (xs.length+1) cap) ab (xs++[x])/\ Vx H mb wc (w1.setCell ⟨mb,0,none⟩ (.slice (some ⟨gg,0,none⟩) (xs.length+1) cap)):=by
 have ha:H<=ab/\ ∀o,wc.heap[ab]? =some o->gi o=false:=⟨hM.yS,pF hM.map⟩;have s1:∀S,ld H S wc W2:=fun S=>ld.rH lu ⟨ha.1,.inr ha.2⟩
 have g1:wc.grownBy W2 (some ab):=⟨lu.os,lu.tape,lu.output,lh lu.size.symm,fun k _ hne=>lu.block k (fun e=>hne (by rw[e]))⟩
 have hrow:v.ownBlock=none\/v.ownBlock≠some ab:=by{(rcases hM.row.2 with⟨rfl,_⟩ | ⟨g,c,cur,rfl,_,Xr,_⟩);{exact .inl rfl};{right;intro e;(have:g=ab:=by simpa[Value.ownBlock]using e);exact yv hM.map Xr this}}
 have oW:=hM.row.kept g1 hrow;have ud:Bb W2 mb 70 #[v,.map (some ab)]:=(lu.block mb (yv hM.map hM.blk)).trans hM.blk;have s2:∀S,ld H S W2 ((W2.alloc o).drew):=fun S=>ld.Vb (((za W2.heap.size W2).alloc (ja _) o).drew) (ja _)
 have Lc:Bb ((W2.alloc o).drew) mb 70 #[v,.map (some ab)]:=Bb.alloc ud o;have D1:((W2.alloc o).drew).ownsRow H 56 4 v xs.length (xs.flatMap Jh.cells):=(oW.alloc o).drew
 have s3:∀S,ld H S ((W2.alloc o).drew) w1:=fun S=>ld.Ej hg fun b e=>by{obtain⟨h1,h2⟩:=Jy D1 b e;exact⟨h1,.inr h2⟩}
 have hb4:Bb w1 mb 70 #[v,.map (some ab)]:=by{(refine Bb.grown Lc hg fun e=>?_);(rcases TC D1 Lc with h | h);{rw[h]at e;cases e};{exact h e.symm}}
 have s4:∀S,ld H S w1 (w1.setCell ⟨mb,0,none⟩ (.slice (some ⟨gg,0,none⟩) (xs.length+1) cap)):=fun S=>UC hb4 hM.ge 0 _
 have WH:∀S,ld H S wc (w1.setCell ⟨mb,0,none⟩ (.slice (some ⟨gg,0,none⟩) (xs.length+1) cap)):=fun S=>(((s1 S).trans (s2 S)).trans (s3 S)).trans (s4 S)
 refine⟨⟨hM.ge,hb4.set 0 _,?_,by rw[Lb,hM.nodes];rfl,?_,hM.yS,?_⟩,WH [],fun b es c hb hne=>?_⟩
 {rw[Ea,Pc];have:=hown.kept (Cg w1 mb 0 (.slice (some ⟨gg,0,none⟩) (xs.length+1) cap)) (TC hown hb4);simpa using this}
 {intro y hy;(rcases List.mem_append.1 hy with hy | hy);{exact(hM.ok y hy).step (WH S)};{rw[Nb]at hy;rw[hy];exact hx.step (WH S)}}
 {have LR:We Value.string (Value.int .i64) ((W2.alloc o).drew) ab (ins (cq t) (Ah x.n) (t.length:Int)):=hm2.alloc o;(have hne1:some ab≠v.ownBlock:=fun e=>by{(rcases hrow with h | h);{rw[h]at e;cases e};{exact h e.symm}});have hm4:We Value.string (Value.int .i64) w1 ab (ins (cq t) (Ah x.n) (t.length:Int)):=by{obtain⟨es,c,h1,h2⟩:=LR;exact⟨es,c,(hg.block ab (je h1) hne1).trans h1,h2⟩};have hm5:We Value.string (Value.int .i64) (w1.setCell ⟨mb,0,none⟩ (.slice (some ⟨gg,0,none⟩) (xs.length+1) cap)) ab (ins (cq t) (Ah x.n) (t.length:Int)):=by{obtain⟨es,c,h1,h2⟩:=hm4;exact⟨es,c,(Gc w1 ⟨mb,0,none⟩ _ ab (fun e=>by have:=yv (b:=mb) ⟨es,c,h1,h2⟩ hb4;exact this e.symm)).trans h1,h2⟩};rw[XH];rw[Hq _ _ _ (by rw[FB,Aa hn])]at hm5;exact hm5}
 ·have KJ:b≠ab:=fun e=>hne (by rw[e];exact hM.blk.cell 1)
  have hbm:b≠mb:=by{rintro rfl;rw[show wc.heap[b]? =_ from hM.blk]at hb;cases hb}
  have BS:((W2.alloc o).drew).heap[b]? =some (.map es c):=by
   show(W2.alloc o).heap[b]? =_
   rw[Tb _ _ _ (by rw[lu.size];exact je hb),lu.block b KJ];exact hb
  have bA:some b≠v.ownBlock:=fun e=>by{(rcases hM.row.2 with⟨rfl,_⟩ | ⟨g,c,cur,rfl,_,Xr,_⟩);{cases e};{(have:b=g:=by simpa[Value.ownBlock]using e);subst this;rw[Xr]at hb;cases hb}}
  refine⟨by rw[Gc _ _ _ b hbm,hg.block b (je BS) bA];exact BS,?_⟩;have q:=(hb4.set 0 (.slice (some ⟨gg,0,none⟩) (xs.length+1) cap)).cell 1;rw[q];intro e;simp at e;exact KJ e.symm
theorem AO (H mb:Nat)(S:List Nat)(t:List Dn)(n:Dn)(vc vk:Value)(W:World)(hm:Pj W H mb S t)(hc:Me W H S n.Ja vc)(hk:Me W H S n.kids vk)(hl:t.length<=900000):
  Calls Tryz.prog 87 #[.pointer (some ⟨mb,0,none⟩),.string (Ah n),.agg #[.int .i64 n.fact,vc,vk,.bool n.leaf]] W fun e W'=>e=.returned (.int .i64 (Md t n).2)/\ Pj W' H mb S (Md t n).1/\ Vx H mb W W':=by
 obtain⟨i0,GM,IM,JM,KM⟩:=info_parts Qo;obtain⟨ac,cc,rfl,c1,c2,_⟩:=Xa.shape hc.1;obtain⟨ak,ck,rfl,k1,k2,_⟩:=Xa.shape hk.1;obtain⟨hge,⟨v,mo,xs,h1,h2,h3,h4,h5⟩,h6⟩:=hm;have hlt:=h1.lt;have m0:=h1.cell 0;have m1:=h1.cell 1;have f1:=h1.frozen 1;have QG:=@run_makeMap Tryz.prog;have hq:=fun(w:World) (r:Option Nat)=>run_eql_map_nil (P:=Tryz.prog) w 66 9 3 r Tryz.underlying66
 go_enter Tryz.func87,Tryz.ntmps87;have HM:Hid (∀ab,We Value.string (Value.int .i64) W ab (cq t)->H<=ab->mo=some ab->uR W H mb S t v ab xs):=fun ab hm ha e=>⟨hge,by rw[<-e];exact h1,h2,h3,h4,ha,hm⟩
 have H1:=da h1;have H2:=da h2;have H4:=da h4;have H5:=da h5;have HC:=da hc;have HK:=da hk;clear h1 h2 h4 h5 hc hk
 go_upto_if 13 with(fail)
 go_cut[] (fun wx=>Hid (Vx H mb W wx/\ wx.cell? ⟨W.heap.size,0,none⟩=some (.int .i64 n.fact)/\ wx.cell? ⟨W.heap.size,1,none⟩=some (.slice ac n.Ja.length cc)/\ wx.cell? ⟨W.heap.size,2,none⟩=some (.slice ak n.kids.length ck)/\ wx.cell? ⟨W.heap.size,3,none⟩=some (.bool n.leaf)/\ W.heap.size<wx.heap.size/\ ∃ab,uR wx H mb S t v ab xs))
 case first=>
  have H6:=da h6
  have hKs:Hid (∀wx:World,Below W.heap.size W wx->Bb wx W.heap.size 56 #[.int .i64 n.fact,.slice ac n.Ja.length cc,.slice ak n.kids.length ck,.bool n.leaf]->Vx H mb W wx/\ wx.cell? ⟨W.heap.size,0,none⟩=some (.int .i64 n.fact)/\ wx.cell? ⟨W.heap.size,1,none⟩=some (.slice ac n.Ja.length cc)/\ wx.cell? ⟨W.heap.size,2,none⟩=some (.slice ak n.kids.length ck)/\ wx.cell? ⟨W.heap.size,3,none⟩=some (.bool n.leaf)/\ W.heap.size<wx.heap.size):=
   fun wx hb hk=>⟨Vx.Vb hb hlt,hk.cell 0,hk.cell 1,hk.cell 2,hk.cell 3,hk.lt⟩
  cases mo with| none=>{go_wp2;go_meet;(rcases H5.out with⟨_,rfl⟩ | ⟨ab,e,_⟩);{obtain⟨k1,k2⟩:=zO hge H1.out H2.out h3 H4.out (.cells #[.int .i64 n.fact,.slice ac n.Ja.length cc,.slice ak n.kids.length ck,.bool n.leaf] 56);have hb:Bb (((W.setCell ⟨mb,1,none⟩ (.map (some (W.heap.size+1)))).alloc (.cells #[.int .i64 n.fact,.slice ac n.Ja.length cc,.slice ak n.kids.length ck,.bool n.leaf] 56)).alloc (.map #[] 0)) W.heap.size 56 #[.int .i64 n.fact,.slice ac n.Ja.length cc,.slice ak n.kids.length ck,.bool n.leaf]:=by{have:=Bb.alloc (Bb.new (W.setCell ⟨mb,1,none⟩ (.map (some (W.heap.size+1)))) 56 #[.int .i64 n.fact,.slice ac n.Ja.length cc,.slice ak n.kids.length ck,.bool n.leaf]) (.map #[] 0);simpa using this};exact⟨k2,hb.cell 0,hb.cell 1,hb.cell 2,hb.cell 3,hb.lt,_,k1⟩};{cases e}}| some ab=>{go_wp2;go_meet;(rcases H5.out with⟨e,_⟩ | ⟨ab',e,h5,h7⟩);{cases e};{(cases e);have hb:Below W.heap.size W (W.alloc (.cells #[.int .i64 n.fact,.slice ac n.Ja.length cc,.slice ak n.kids.length ck,.bool n.leaf] 56)):=(za _ _).alloc (ja _) _;obtain⟨q0,q1,q2,q3,q4,q5⟩:=hKs.out _ hb (Bb.new _ _ _);exact⟨q0,q1,q2,q3,q4,q5,_,(HM.out ab h7 h5 rfl).below hb (ja _)⟩}}
 case rest=>
  obtain⟨q0,q1,q2,q3,q4,q5,ab,hM⟩:=hcut.out;have hcx:=Me.step HC.out (q0.s.more la);have Tk:=Me.step HK.out (q0.s.more la);have hlk:=Sn QE.key Tryz.underlying66 Dr hM.map (Ah n);rw[FB]at hlk;have m0:=hM.blk.cell 0;have m1:=hM.blk.cell 1;have ahz:=hM.blk.lt;have HQ:=da q0;clear H1 H2 H4 H5 HC HK HM hcut q0 f1 hq;by_cases hn:n∈t
  {rw[if_pos hn]at hlk;have HA:=da (show Md t n=(t,t.idxOf n) by unfold Md;rw[if_pos hn]);have HM:=da hM;clear hM hn hcx Tk;go_wp2;go_ret;rw[HA.out];exact⟨rfl,HM.out.is h6,HQ.out⟩}
  ·rw[Aa hn]at hlk
   have HA:=da (show Md t n=(t++[n],t.length) by unfold Md;rw[Aa hn]);have xq:xs.length=t.length:=by rw[<-hM.nodes,Sa]
   obtain⟨W2,RA,hm2,lu⟩:=run_store QE.key Tryz.underlying66 hM.map (Ah n) (t.length:Int);have ud:Bb W2 mb 70 #[v,.map (some ab)]:=(lu.block mb (yv hM.map hM.blk)).trans hM.blk;have n0:=ud.cell 0;have n1:=ud.cell 1;have hlt2:=ud.lt
   have Qw:wc.heap[W.heap.size]? ≠none:=by{intro e;rw[Array.getElem?_eq_none_iff]at e;omega}
   have F1:W.heap.size≠ab:=by{rintro rfl;obtain⟨es,c,h1,_⟩:=hM.map;simp only[World.cell?,h1]at q1;cases q1}
   have p1:=(lu.cell (p:=⟨W.heap.size,0,none⟩) F1).trans q1;have p2:=(lu.cell (p:=⟨W.heap.size,1,none⟩) F1).trans q2;have p3:=(lu.cell (p:=⟨W.heap.size,2,none⟩) F1).trans q3;have p4:=(lu.cell (p:=⟨W.heap.size,3,none⟩) F1).trans q4;have g1:wc.grownBy W2 (some ab):=⟨lu.os,lu.tape,lu.output,lh lu.size.symm,fun k _ hne=>lu.block k (fun e=>hne (by rw[e]))⟩
   have dw:=hM.row.kept g1 (by
    rcases hM.row.2 with⟨rfl,_⟩ | ⟨g,c,cur,rfl,_,Xr,_⟩
    {exact .inl rfl}
    ·right
     intro e
     have:g=ab:=by simpa[Value.ownBlock]using e
     exact yv hM.map Xr this)
   have Ek:=da dw;have mu:=da (fun o gg cap w1 hown hg=>zS (x:=⟨n,.slice ac n.Ja.length cc,.slice ak n.kids.length ck⟩) hM ⟨hcx,Tk⟩ hn hm2 lu o (gg:=gg) (cap:=cap) (w1:=w1) hown hg);obtain⟨va,zh,rR⟩:=Wd hM.row;have ahA:=hM.ge;clear hM hcx Tk hn hm2 lu Qw g1 dw q1 q2 q3 q4;rw[xq]at rR Ek mu;subst rR;clear xq;have hH2:H<=W2.heap.size:=by omega
   have Oe:Hid (∀w1,(W2.alloc (.cells #[.int .i64 n.fact,.slice ac n.Ja.length cc,.slice ak n.kids.length ck,.bool n.leaf] 56)).drew.grownBy w1 (Value.slice va t.length zh).ownBlock->Bb w1 mb 70 #[.slice va t.length zh,.map (some ab)]):=by{intro w1 hg;(refine Bb.grown (W:=(W2.alloc (.cells #[.int .i64 n.fact,.slice ac n.Ja.length cc,.slice ak n.kids.length ck,.bool n.leaf] 56)).drew) (Bb.alloc ud _) hg fun e=>?_);(rcases TC Ek.out ud with h | h);{rw[h]at e;cases e};{exact h e.symm}}
   clear ud;go_upto_region 7 with(fail)
   go_region_law (refine step_append_lies _ Ha _ _ _ Ha H 56 i0 _ 4 64 Tryz.underlying32 GM IM JM KM rfl ia (.slice va t.length zh) t.length _ Ha ((Ek.out.alloc _).drew) ⟨W2.heap.size,0,none⟩ 1 1 (#[.int .i64 n.fact,.slice ac n.Ja.length cc,.slice ak n.kids.length ck,.bool n.leaf]).toList Ha Ha (Mf (cs:=#[.int .i64 n.fact,.slice ac n.Ja.length cc,.slice ak n.kids.length ck,.bool n.leaf]) (t:=56) (fr:=(0,0)) (heap_alloc_new W2 _)) (by simp[Value.oneCell']) ia (by unfold maxLen;omega) ia (by simp;omega) (W2.heap.size+1) la ?_;intro gg cap w1 Tq hgrow hat DS;have hb4:=Oe.out w1 hgrow;have s0:=hb4.cell 0;have z0:=hb4.frozen 0)
   all_goals
    obtain⟨k1,k2⟩:=mu.out _ gg cap w1 Tq hgrow;have K1:=da k1;have K2:=da k2;clear k1 k2 Tq hgrow hat hb4 s0 z0;go_wp2;go_ret;rw[HA.out];exact⟨rfl,K1.out.is (by rw[Ea,Hb];omega),HQ.out.trans K2.out⟩
abbrev tm (H:Nat)(W:World):Prop:=Lib.TabBelow Tryz.prog H W "internal/strconv.uint64pow10" .u64 Lib.pow10Tab
theorem tm.step {H:Nat}{S:List Nat}{W W':World}(h:tm H W)(hH:H<=W.heap.size)(hs:ld H S W W'):tm H W':=h.on (hs.below hH)
structure Rs (n : Dn) : Prop where
 fact:yj n.fact
 Ja:∀x∈n.Ja,yj x
 kids:∀x∈n.kids,yj x
 lc:n.Ja.length<=1000000
 lk:n.kids.length<=1000001
theorem Qt (H mb:Nat)(S:List Nat)(t:List Dn)(n:Dn)(vc vk:Value)(W:World)(hm:Pj W H mb S t)(hc:Me W H S n.Ja vc)(hk:Me W H S n.kids vk)(hl:t.length<=900000)(hn:Rs n)(hT:tm H W):
  Calls Tryz.prog 40 #[.pointer (some ⟨mb,0,none⟩),.agg #[.int .i64 n.fact,vc,vk,.bool n.leaf]] W fun e W'=>e=.returned (.int .i64 (Md t n).2)/\ Pj W' H mb S (Md t n).1/\ Vx H mb W W':=by
 obtain⟨ac,cc,rfl,c1,c2,_⟩:=Xa.shape hc.1;obtain⟨ak,ck,rfl,k1,k2,_⟩:=Xa.shape hk.1;have hlt:mb<W.heap.size:=by obtain⟨_,⟨v,mo,xs,h1,_⟩,_⟩:=hm;exact h1.lt
 have nW:H<=W.heap.size:=by have:=hm.ge;omega
 have vq:Below W.heap.size W (W.alloc (.cells #[.int .i64 n.fact,.slice ac n.Ja.length cc,.slice ak n.kids.length ck,.bool n.leaf] 56)):=(za _ _).alloc (ja _) _
 have HX:Hid (∀w',Below (W.heap.size+1) (W.alloc (.cells #[.int .i64 n.fact,.slice ac n.Ja.length cc,.slice ak n.kids.length ck,.bool n.leaf] 56)) w'->Calls Tryz.prog 88 #[.agg #[.int .i64 n.fact,.slice ac n.Ja.length cc,.slice ak n.kids.length ck,.bool n.leaf]] w' fun e w''=>e=.returned (.string (Ah n))/\ Below w'.heap.size w' w''):=by{intro w' hb;have s0:ld H S W w':=(ld.Vb vq (ja _)).trans (ld.Vb hb la);have c':=(hc.step s0).1;have k':=(hk.step s0).1;exact iL n _ _ w' c' k' hn.fact hn.Ja hn.kids hn.lc hn.lk (hT.step nW s0).here}
 have HY:Hid (∀w',Below (W.heap.size+1) (W.alloc (.cells #[.int .i64 n.fact,.slice ac n.Ja.length cc,.slice ak n.kids.length ck,.bool n.leaf] 56)) w'->Calls Tryz.prog 87 #[.pointer (some ⟨mb,0,none⟩),.string (Ah n),.agg #[.int .i64 n.fact,.slice ac n.Ja.length cc,.slice ak n.kids.length ck,.bool n.leaf]] w' fun e w''=>e=.returned (.int .i64 (Md t n).2)/\ Hid (Pj w'' H mb S (Md t n).1/\ Vx H mb W w'')):=by{intro w' hb;(have s0:∀S,ld H S W w':=fun S=>(ld.Vb vq (ja _)).trans (ld.Vb hb la));refine(AO H mb S t n _ _ w' ((hm.below vq (ja _)).below hb la) (hc.step (s0 S)) (hk.step (s0 S)) hl).mono ?_;rintro e w'' ⟨rfl,h1,h2⟩;exact⟨rfl,h1,((Vx.Vb vq hlt).trans (Vx.Vb (hb.mono la) (by simp;omega))).trans h2⟩}
 clear hm hc hk vq hn hT;generalize Ah n=text at*
 generalize(Md t n).1=t' at*
 generalize(Md t n).2=k' at*
 go_enter Tryz.func40,Tryz.ntmps40;go_wp2
 go_region_with (first
  | (go_at_call 88;refine(HX.out _ ((za _ _).drew)).mono ?_;rintro e w2 ⟨rfl,ud⟩;have HBk:=da (((za (W.heap.size+1) (W.alloc (.cells #[.int .i64 n.fact,.slice ac n.Ja.length cc,.slice ak n.kids.length ck,.bool n.leaf] 56))).drew).trans (ud.mono la));have kb:Bb w2 W.heap.size 56 #[.int .i64 n.fact,.slice ac n.Ja.length cc,.slice ak n.kids.length ck,.bool n.leaf]:=Bb.below (W:=(W.alloc (.cells #[.int .i64 n.fact,.slice ac n.Ja.length cc,.slice ak n.kids.length ck,.bool n.leaf] 56))) (Bb.new W 56 #[.int .i64 n.fact,.slice ac n.Ja.length cc,.slice ak n.kids.length ck,.bool n.leaf]) (HBk.out.mono la);have y0:=kb.cell 0;have y1:=kb.cell 1;have y2:=kb.cell 2;have y3:=kb.cell 3;clear ud kb)
  | (go_at_call 87;refine(HY.out _ HBk.out).mono ?_;rintro e w3 ⟨rfl,Lc⟩;clear HBk))
 all_goals
  go_wp2;go_ret;exact⟨rfl,Lc.out⟩
end Go.Proofs.YtejbgoigkefnfaaGreatDoor
