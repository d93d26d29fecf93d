/- The walk of Not: the opposite of a diagram. A bound on the table. -/
import Derived.Test.YtihniipjfdenbaaGreatDoorDgAV
set_option maxRecDepth 100000
set_option maxHeartbeats 4000000
namespace Go.Proofs.YtihniipjfdenbaaGreatDoor
open Go.RowKit
theorem each_list {α:Type}{P:Nat->α->Prop}:∀(n:Nat),(∀i,i<n->∃z,P i z)->∃l:List α,l.length=n/\ ∀i (h:i<l.length),P i l[i]
 | 0,_=>⟨[],rfl,fun i h=>by cases h⟩
 | n+1,h=>by{obtain⟨l,hl,hp⟩:=each_list n (fun i hi=>h i (by omega));obtain⟨z,hz⟩:=h n (by omega);refine⟨l++[z],by simp[hl],fun i hi=>?_⟩;by_cases e:i<l.length;{rw[List.getElem_append_left e];exact hp i e};{(have:i=l.length:=by simp at hi;omega);subst this;rw[List.getElem_append_right (Nat.le_refl _)];simpa[hl]using hz}}
def DnA.In (w:World)(B:Nat)(x:DnA):Prop:=IntsIn w B x.n.cuts x.vc/\ IntsIn w B x.n.kids x.vk
theorem cells_flat :∀(xs:List DnA) (k j:Nat) (hk:k<xs.length),j<4->(xs.flatMap DnA.cells)[k*4+j]? =xs[k].cells[j]?
 | x::xs,0,j,_,hj=>by{rw[List.flatMap_cons,List.getElem?_append_left (by simp[DnA.cells];omega),Nat.zero_mul,Nat.zero_add];rfl}
 | x::xs,k+1,j,hk,hj=>by{rw[List.flatMap_cons,List.getElem?_append_right (by simp[DnA.cells];omega)];have:=cells_flat xs k j (by simpa using hk) hj;rw[show(k+1)*4+j-x.cells.length=k*4+j by simp[DnA.cells];omega,this];rfl}
theorem cells_len (xs:List DnA):(xs.flatMap DnA.cells).length=xs.length*4:=by
 induction xs with| nil=>rfl| cons x xs ih=>rw[List.flatMap_cons,List.length_append,ih,List.length_cons,Nat.add_mul];simp[DnA.cells];omega
theorem dg_cells {w:World}{B:Nat}{t:List Dn}{ag:Option Addr}{cg:Nat}(h:SlIn DnR 4 w B t (.slice ag t.length cg)):∃xs:List DnA,xs.map (·.n)=t/\ (∀x∈xs,x.In w B)/\
  ∀a,ag=some a->t≠[]->∀j u,(xs.flatMap DnA.cells)[j]? =some u->a.spot=none/\ a.block<B/\ w.cell? ⟨a.block,a.off+j,none⟩=some u:=by
 obtain⟨_,_,e,_,_,h4⟩:=h;cases e
 by_cases hne:t=[]
 {subst hne;exact⟨[],rfl,fun x hx=>(by cases hx),fun _ _ hn=>absurd rfl hn⟩}
 ·obtain⟨b,off,rfl,hb,hc⟩:=h4 hne
  obtain⟨xs,hl,hx⟩:=each_list (P:=fun i (z:DnA)=>∀hi:i<t.length,z.n=t[i]/\ z.In w B/\ ∀j,j<4->w.cell? ⟨b,off+i*4+j,none⟩=z.cells[j]?) t.length (fun i hi=>by
   obtain⟨vc,vk,c0,c1,c2,c3,h5,h6⟩:=hc i hi
   refine⟨⟨t[i],vc,vk⟩,fun _=>⟨rfl,⟨h5,h6⟩,fun j hj=>?_⟩⟩
   match j,hj with
   | 0,_=>exact c0
   | 1,_=>exact c1
   | 2,_=>exact c2
   | 3,_=>exact c3)
  refine⟨xs,?_,fun x hxm=>?_,fun a ha _ j u hu=>?_⟩
  {apply List.ext_getElem (by simp[hl]);intro i h1 h2;rw[List.getElem_map];exact(hx i (by omega) h2).1}
  {obtain⟨i,hi,rfl⟩:=List.getElem_of_mem hxm;exact(hx i hi (by omega)).2.1}
  {(cases ha);(have hj:j<xs.length*4:=by rw[<-cells_len];exact(List.getElem?_eq_some_iff.1 hu).1);(have hd:j=j / 4*4+j % 4:=by omega);refine⟨rfl,hb,?_⟩;have h1:=(hx (j / 4) (by omega) (by omega)).2.2 (j % 4) (by omega);rw[hd,cells_flat xs (j / 4) (j % 4) (by omega) (by omega)]at hu;rw[hd, <-Nat.add_assoc];exact h1.trans hu}
theorem own_nodes {W:World}{b:Nat}{v:Value}{xs:List DnA}(h:W.ownsRow b 106 4 v xs.length (xs.flatMap DnA.cells))(hx:∀x∈xs,x.In W W.heap.size):∃a c,v=.slice a (xs.map (·.n)).length c/\ DgIn W W.heap.size (xs.map (·.n)) (.agg #[.slice a (xs.map (·.n)).length c]):=by
 obtain⟨a,c,rfl⟩:=own_len h;refine⟨a,c,by simp,_,rfl,?_⟩;rcases h.2 with⟨e,hn⟩ | ⟨g,cap,cur,e,h1,h2,h3,h4,h5,h6⟩
 {obtain rfl:=List.length_eq_zero_iff.1 hn;(cases e);exact⟨none,0,rfl,Nat.le_refl _,Nat.zero_le _,fun h=>absurd rfl h⟩}
 {(cases e);refine⟨_,_,rfl,by simpa using h3,h4,fun hne=>⟨g,0,rfl,heap_lt h2,fun i hi=>?_⟩⟩;(have hi':i<xs.length:=by simpa using hi);(have key:∀j,j<4->W.cell? ⟨g,0+i*4+j,none⟩=xs[i].cells[j]? :=fun j hj=>by{rw[Nat.zero_add,h.cellAt (i*4+j) (by omega),cells_flat xs i j hi' hj]});have hin:=hx xs[i] (List.getElem_mem hi');rw[List.getElem_map];exact⟨xs[i].vc,xs[i].vk,key 0 (by omega),key 1 (by omega),key 2 (by omega),key 3 (by omega),hin.1,hin.2⟩}
theorem cloneN_any {t:List Dn}{ag:Option Addr}{cg:Nat}(w:World)(B:Nat)(hB:B<=w.heap.size)(hlen:t.length<=2000000)(hg:SlIn DnR 4 w B t (.slice ag t.length cg)):
  Calls Tryz.prog 70 #[.slice ag t.length cg] w fun e w'=>∃(v':Value) (xs:List DnA),e=.returned v'/\ xs.map (·.n)=t/\ (∀x∈xs,x.In w B)/\ w'.ownsRow w.heap.size 106 4 v' xs.length (xs.flatMap DnA.cells)/\ Below w.heap.size w w':=by
 obtain⟨xs,hx1,hx2,hx3⟩:=dg_cells hg;obtain⟨_,_,e,h1,h2,h4⟩:=hg;cases e
 have hxl:xs.length=t.length:=by rw[<-hx1];simp
 obtain⟨i0,hi0,hz0,hz1,hz2⟩:=info_parts nodeInfo;have hq:=fun(w:World)=>Lib.run_eql_slice_nil (P:=Tryz.prog) w 73 106 ag t.length cg 0 0 Tryz.underlying73
 have HO:Hid ((w.alloc (.cells #[] 106)).ownsRow w.heap.size 106 4 (.slice (some ⟨w.heap.size,0,none⟩) 0 0) 0 []):=⟨rfl,.inr ⟨w.heap.size,0,#[],rfl,Nat.le_refl _,heap_alloc_new _ _,Nat.le_refl _,Nat.zero_le _,rfl,rfl⟩⟩;cases ag with| none=>{have hn:t=[]:=by{apply Classical.byContradiction;intro e;obtain⟨b,off,ha,_⟩:=h4 e;cases ha};have HN:=Lib.hid hn;clear hn h4;have HX1:=Lib.hid hx1;have HX2:=Lib.hid hx2;clear hx1 hx2 hx3;go_enter Tryz.func70,Tryz.ntmps70;go_wp2;go_ret;have hn:=HN.out;subst hn;obtain rfl:xs=[]:=List.length_eq_zero_iff.1 hxl;exact⟨_,[],rfl,rfl,HX2.out,World.ownsRow_nil _ _ _ _,Below.refl _ _⟩}| some a=>{have hnews:∀j u,(xs.flatMap DnA.cells)[j]? =some u->(w.alloc (.cells #[] 106)).cell? (a.add j)=some u:=by{intro j u hj;have hne:t≠[]:=by{intro e;have:xs=[]:=List.length_eq_zero_iff.1 (by rw[hxl,e];rfl);rw[this]at hj;simp at hj};obtain⟨e1,e2,e3⟩:=hx3 a rfl hne j u hj;have hadd:a.add j=⟨a.block,a.off+j,none⟩:=by{obtain⟨b,o,s⟩:=a;simp only at e1;subst e1;unfold Addr.add;split<;>simp_all};rw[hadd,World.cell?_of_block (w:=w) (a:=⟨a.block,a.off+j,none⟩) (Below.heap_alloc w _ a.block (by omega))];exact e3};have HN:=Lib.hid hnews;have HX1:=Lib.hid hx1;have HX2:=Lib.hid hx2;have hcl:=cells_len xs;(have HCL:Hid ((xs.flatMap DnA.cells).length=t.length*4):=by show _=_;rw[hcl,hxl]);have HXL:Hid (t.length=xs.length):=hxl.symm;(have HOC:Hid (∀u∈xs.flatMap DnA.cells,Value.oneCell' u=true):=fun u hu=>by{obtain⟨y,hy,hu⟩:=List.mem_flatMap.1 hu;obtain⟨⟨_,_,e1,_⟩,⟨_,_,e2,_⟩⟩:=hx2 y hy;simp only[DnA.cells,List.mem_cons,List.not_mem_nil,or_false]at hu;(rcases hu with rfl | rfl | rfl | rfl);{rfl};{rw[e1];rfl};{rw[e2];rfl};{rfl}});clear h4 hnews hx1 hx2 hx3 hcl hxl;go_enter Tryz.func70,Tryz.ntmps70;go_wp2_with (at_builtin;refine wpList_append_own_at _ rfl _ _ 73 rfl w.heap.size 106 i0 _ 4 64 Tryz.underlying73 hi0 hz0 hz1 hz2 rfl (by decide) _ _ _ rfl HO.out a t.length cg (xs.flatMap DnA.cells) rfl HCL.out HN.out HOC.out (by unfold maxLen;omega) (by omega) (by simp) ?_;intro v' w1 hown' hgrow hnil hat;refine Hid.out ?_);refine Lib.hid ?_;have hb0:Below w.heap.size w w1:=((Below.refl w.heap.size w).alloc (Nat.le_refl _) (.cells #[] 106)).grown hgrow (by simp) (fun k e=>by cases e;exact Nat.le_refl _);rw[Nat.zero_add,List.nil_append]at hown';have HW:=Lib.hid hown';clear hown' hgrow hnil hat;go_wp2;go_ret;exact⟨_,xs,rfl,HX1.out,HX2.out,(by rw[<-HXL.out];exact HW.out),hb0⟩}
section
def DnA.opp (x:DnA):DnA:=⟨notN x.n,x.vc,x.vk⟩
def oppU (j:Nat)(xs:List DnA):List DnA:=(xs.take j).map DnA.opp++xs.drop j
theorem oppU_len (j:Nat)(xs:List DnA):(oppU j xs).length=xs.length:=by unfold oppU;simp;omega
theorem oppU_at {j:Nat}{xs:List DnA}(h:j<xs.length):oppU j xs=(xs.take j).map DnA.opp++xs[j]::xs.drop (j+1):=by unfold oppU;rw[List.drop_eq_getElem_cons h]
theorem oppU_next {j:Nat}{xs:List DnA}(h:j<xs.length):oppU (j+1) xs=(xs.take j).map DnA.opp++xs[j].opp::xs.drop (j+1):=by
 unfold oppU;rw[List.take_succ_eq_append_getElem h,List.map_append,List.append_assoc];rfl
theorem oppU_get {j:Nat}{xs:List DnA}(h:j<xs.length):(oppU j xs)[j]'(by rw[oppU_len];exact h)=xs[j]:=by
 have hl:((xs.take j).map DnA.opp).length=j:=by simp;omega
 have e:(oppU j xs)[j]? =some xs[j]:=by{rw[oppU_at h,List.getElem?_append_right (by omega),hl,Nat.sub_self];rfl}
 exact(List.getElem?_eq_some_iff.1 e).2
theorem oppU_leaf {j:Nat}{xs:List DnA}(h:j<xs.length)(hk:xs[j].n.kids=[]):((oppU j xs).flatMap DnA.cells).set (j*4+3) (.bool (!xs[j].n.leaf))=(oppU (j+1) xs).flatMap DnA.cells:=by
 rw[oppU_at h,oppU_next h,List.flatMap_append,List.flatMap_append,List.flatMap_cons,List.flatMap_cons];have hl:(((xs.take j).map DnA.opp).flatMap DnA.cells).length=j*4:=by rw[cells_len];simp;omega
 rw[List.set_append_right _ _ (by omega),hl,show j*4+3-j*4=3 by omega]
 have:xs[j].opp.cells=[.int .i64 xs[j].n.fact,xs[j].vc,xs[j].vk,.bool (!xs[j].n.leaf)]:=by{unfold DnA.opp DnA.cells notN;rw[if_pos hk]}
 rw[this];rfl
theorem opp_inner {x:DnA}(hk:x.n.kids≠[]):x.opp=x:=by
 obtain⟨n,vc,vk⟩:=x;unfold DnA.opp notN;rw[if_neg hk]
theorem oppU_inner {j:Nat}{xs:List DnA}(h:j<xs.length)(hk:xs[j].n.kids≠[]):oppU (j+1) xs=oppU j xs:=by rw[oppU_at h,oppU_next h,opp_inner hk]
theorem oppU_all {xs:List DnA}:oppU xs.length xs=xs.map DnA.opp:=by unfold oppU;simp
theorem oppU_zero {xs:List DnA}:oppU 0 xs=xs:=by unfold oppU;simp
structure NtS (w W : World) (xs : List DnA) (g cap b3 j : Nat) : Prop where
 below:Below w.heap.size w W
 row:W.ownsRow (w.heap.size+2) 106 4 (.slice (some ⟨g,0,none⟩) xs.length cap) xs.length ((oppU j xs).flatMap DnA.cells)
 box:Blk W b3 75 #[.slice (some ⟨g,0,none⟩) xs.length cap]
 res:Blk W (w.heap.size+1) 75 #[.slice none 0 0]
 ins:∀x∈xs,x.In W w.heap.size
variable {w W W' : World} {xs : List DnA} {g cap b3 j : Nat}
theorem NtS.step (h:NtS w W xs g cap b3 j)(hb:Below W.heap.size W W'):NtS w W' xs g cap b3 j:=
 ⟨h.below.trans (hb.mono h.below.size),own_under h.row hb,h.box.below hb,h.res.below hb,fun x hx=>⟨IntsIn.below (hb.mono h.below.size) (h.ins x hx).1,IntsIn.below (hb.mono h.below.size) (h.ins x hx).2⟩⟩
theorem NtS.put (h:NtS w W xs g cap b3 j)(hj:j<xs.length)(hk:xs[j].n.kids=[])(hb3:b3≠g):NtS w (W.setCell ⟨g,j*4+3,none⟩ (.bool (!xs[j].n.leaf))) xs g cap b3 (j+1):=by
 have hg:=h.row.lt g rfl;have hs:=h.row.stored (j*4+3) (.bool (!xs[j].n.leaf));have q:=hs.1;rw[oppU_leaf hj hk]at q
 have far:∀ {b:Nat} {cs:Array Value},Blk W b 75 cs->g≠b->Blk (W.setCell ⟨g,j*4+3,none⟩ (.bool (!xs[j].n.leaf))) b 75 cs:=fun{b cs} hb hne=>by
  show(W.heap.modify g _)[b]? =_
  rw[Array.getElem?_modify,if_neg hne];exact hb
 have hb:Below w.heap.size W (W.setCell ⟨g,j*4+3,none⟩ (.bool (!xs[j].n.leaf))):=((Below.refl w.heap.size W)).setCell (p:=⟨g,j*4+3,none⟩) (by show w.heap.size<=g;omega) _;exact⟨h.below.setCell (p:=⟨g,j*4+3,none⟩) (by show w.heap.size<=g;omega) _,q,far h.box (fun e=>hb3 e.symm),far h.res (by omega),fun x hx=>⟨IntsIn.below hb (h.ins x hx).1,IntsIn.below hb (h.ins x hx).2⟩⟩
theorem NtS.at (h:NtS w W xs g cap b3 j)(hj:j<xs.length)(i:Nat)(hi:i<4):W.cell? ⟨g,j*4+i,none⟩=xs[j].cells[i]? :=by
 rw[h.row.cellAt (j*4+i) (by omega),cells_flat _ j i (by rw[oppU_len];exact hj) hi,oppU_get hj]
theorem NtS_inner {w W:World}{xs:List DnA}{g cap b3 j:Nat}(hj:j<xs.length)(hk:xs[j].n.kids≠[])(h:NtS w W xs g cap b3 j):NtS w W xs g cap b3 (j+1):=⟨h.below,by rw[oppU_inner hj hk];exact h.row,h.box,h.res,h.ins⟩
theorem not_done {t:List Dn}{b r:Nat}{v:Value}{o:Option Addr}{n c:Nat}(h:W.ownsRow b 106 4 v xs.length ((xs.map DnA.opp).flatMap DnA.cells))(hin:∀x∈xs,x.In W W.heap.size)(ht:xs.map (·.n)=t)(hr:Blk W r 75 #[.slice o n c])(u:Value):
  ∃a c,v=.slice a (notD t).length c/\ DgIn (W.setCell ⟨r,0,none⟩ u) (W.setCell ⟨r,0,none⟩ u).heap.size (notD t) (.agg #[.slice a (notD t).length c]):=by
 have hm:(xs.map DnA.opp).map (·.n)=notD t:=by{rw[<-ht,List.map_map];unfold notD;rw[List.map_map];rfl}
 have h':W.ownsRow b 106 4 v (xs.map DnA.opp).length ((xs.map DnA.opp).flatMap DnA.cells):=by rw[List.length_map];exact h
 obtain⟨a,c,e1,e2⟩:=own_nodes h' (fun x hx=>by
  obtain⟨y,hy,rfl⟩:=List.mem_map.1 hx
  exact hin y hy)
 rw[hm]at e1 e2;exact⟨a,c,e1,by rw[World.size_setCell];exact e2.set hr u⟩
theorem notG_any {t:List Dn}{vg:Value}{w:World}(hlen:t.length<=1000000)(hg:DgIn w w.heap.size t vg):
  Calls Tryz.prog 43 #[vg] w fun e w'=>∃(a:Option Addr) (c:Nat),e=.returned (.agg #[.slice a (notD t).length c])/\ DgIn w' w'.heap.size (notD t) (.agg #[.slice a (notD t).length c])/\ Below w.heap.size w w':=by
 obtain⟨_,rfl,hg2⟩:=hg;have HG:=Lib.hid hg2;obtain⟨a,c,rfl,l1,l2,_⟩:=SlIn.shape hg2;unfold maxLen at l2;have hb2:Below w.heap.size w ((w.alloc (.cells #[.slice a t.length c] 75)).alloc (.cells #[.slice none 0 0] 75)):=((Below.refl _ _).alloc (Nat.le_refl _) _).alloc (by simp) _;have HK:Hid (Blk ((w.alloc (.cells #[.slice a t.length c] 75)).alloc (.cells #[.slice none 0 0] 75)) w.heap.size 75 #[.slice a t.length c]):=(Blk.new w 75 #[.slice a t.length c]).alloc _
 have HR:Hid (Blk ((w.alloc (.cells #[.slice a t.length c] 75)).alloc (.cells #[.slice none 0 0] 75)) (w.heap.size+1) 75 #[.slice none 0 0]):=by{have q:=Blk.new (w.alloc (.cells #[.slice a t.length c] 75)) 75 #[.slice none 0 0];rw[World.size_alloc]at q;exact q}
 have hs2:(((w.alloc (.cells #[.slice a t.length c] 75)).alloc (.cells #[.slice none 0 0] 75))).heap.size=w.heap.size+2:=by simp
 obtain⟨W,hW⟩:∃W,((w.alloc (.cells #[.slice a t.length c] 75)).alloc (.cells #[.slice none 0 0] 75))=W:=⟨_,rfl⟩;rw[hW]at hb2 HK HR hs2;have HW:=Lib.hid hW;have HB2:=Lib.hid hb2
 have HC:Hid (Calls Tryz.prog 70 #[.slice a t.length c] W fun e w'=>∃(v':Value) (xs:List DnA),e=.returned v'/\ xs.map (·.n)=t/\ (∀x∈xs,x.In W w.heap.size)/\ w'.ownsRow W.heap.size 106 4 v' xs.length (xs.flatMap DnA.cells)/\ Below W.heap.size W w'):=
  cloneN_any W w.heap.size hb2.size (by omega) (SlIn.below DnR.kept hb2 hg2)
 have x0:=HK.out.cell 0;clear hg2 hW hb2;go_enter Tryz.func43,Tryz.ntmps43;go_upto_region 1 with(fail);rw[HW.out];go_upto_region 2 with(go_at_call 70;refine HC.out.mono ?_;rintro e w1 ⟨v1,xs,rfl,hx1,hx2,hown,hb1⟩;obtain⟨ga,gc,rfl⟩:=own_len hown);have HB1:=Lib.hid (HB2.out.trans (hb1.mono HB2.out.size));have HR1:=Lib.hid (HR.out.below hb1);have HX1:=Lib.hid hx1;have HX2:Hid (∀x∈xs,x.In w1 w.heap.size):=fun x hx=>⟨IntsIn.below (hb1.mono HB2.out.size) (hx2 x hx).1,IntsIn.below (hb1.mono HB2.out.size) (hx2 x hx).2⟩
 have HZ:=Lib.hid hb1.size;have hb3:Below w1.heap.size w1 (w1.alloc (.cells #[.slice ga xs.length gc] 75)):=(Below.refl _ _).alloc (Nat.le_refl _) _;have HB3:Hid (Below w.heap.size w (w1.alloc (.cells #[.slice ga xs.length gc] 75))):=HB1.out.trans (hb3.mono HB1.out.size);have HR3:=Lib.hid (HR1.out.below hb3);have HO:Hid ((w1.alloc (.cells #[.slice ga xs.length gc] 75)).ownsRow W.heap.size 106 4 (.slice ga xs.length gc) xs.length (xs.flatMap DnA.cells)):=own_under hown hb3;have HK3:Hid (Blk (w1.alloc (.cells #[.slice ga xs.length gc] 75)) w1.heap.size 75 #[.slice ga xs.length gc]):=Blk.new _ _ _;have HX3:Hid (∀x∈xs,x.In (w1.alloc (.cells #[.slice ga xs.length gc] 75)) w.heap.size):=fun x hx=>⟨IntsIn.below (hb3.mono HB1.out.size) (HX2.out x hx).1,IntsIn.below (hb3.mono HB1.out.size) (HX2.out x hx).2⟩
 have HLT:Hid (∀k,(Value.slice ga xs.length gc).ownBlock=some k->k<w1.heap.size):=fun k hk=>(hown.lt k hk).2
 have hxl:t.length=xs.length:=by rw[<-hx1];simp
 have hlx:xs.length<=1000000:=by omega
 have hz1:w.heap.size+2<=w1.heap.size:=by have:=hb1.size;omega
 have hz3:(w1.alloc (.cells #[.slice ga xs.length gc] 75)).heap.size=w1.heap.size+1:=by simp
 clear hx1 hx2 hown hb1 hb3 HX2 HR1 HB1 HC HK HR HW x0 HG hxl l1 l2;generalize w1.alloc (.cells #[.slice ga xs.length gc] 75)=W3 at*
 generalize w1.heap.size=b3 at*
 have z0:=HK3.out.cell 0;by_cases hne:xs.length=0
 {obtain rfl:xs=[]:=List.length_eq_zero_iff.1 hne;have n0:=HR3.out.cell 0;have f0:=HR3.out.frozen 0;go_wp2;go_loopw [13] (fun iv wr=>iv=.int .i64 0/\ Hid (wr=W3)) (fun _ _=>0);(case atStart=>exact⟨rfl,rfl⟩);case round=>(obtain⟨rfl,hwr⟩:=hrel;obtain rfl:=hwr.out;go_wp2;have hcs:=(HR3.out.set 0 (.slice ga 0 gc)).cell 0;refine bodyPost_ret (by simp[results,Tryz.results43,go_sem,hcs];try rfl) rfl ?_;obtain⟨a1,c1,e1,e2⟩:=not_done (xs:=[]) HO.out (fun x hx=>by cases hx) HX1.out HR3.out (.slice ga 0 gc);exact⟨a1,c1,by rw[<-e1];rfl,e2,HB3.out.setCell (p:=⟨w.heap.size+1,0,none⟩) (by show w.heap.size<=w.heap.size+1;omega) _⟩)}
 {obtain⟨g,cap,hsl,hg1,hg2⟩:=HO.out.form (by omega);simp only[Value.slice.injEq,true_and]at hsl;obtain⟨rfl,rfl⟩:=hsl;(have hn3:b3≠g:=by have:=HLT.out g rfl;omega);have HS:Hid (NtS w W3 xs g gc b3 0):=⟨HB3.out,by rw[oppU_zero, <-hs2];exact HO.out,HK3.out,HR3.out,HX3.out⟩;have HN3:=Lib.hid hn3;go_wp2;go_loopw [13] (fun iv wr=>∃j:Nat,j<=xs.length/\ iv=.int .i64 j/\ Hid (NtS w wr xs g gc b3 j)) (fun iv _=>xs.length-(intOf iv).toNat);(case atStart=>exact⟨0,by omega,rfl,HS⟩);case round=>(obtain⟨j,hj,rfl,hS⟩:=hrel;clear HS HO HK3 z0;have z0:=hS.out.box.cell 0;by_cases hlt:j<xs.length;{have k0:=hS.out.at hlt 0 (by omega);have k1:=hS.out.at hlt 1 (by omega);have k2:=hS.out.at hlt 2 (by omega);have k3:=hS.out.at hlt 3 (by omega);have hin:=hS.out.ins xs[j] (List.getElem_mem hlt);obtain⟨ac,cc,hvc,_⟩:=SlIn.shape hin.1;obtain⟨ak,ck,hvk,_⟩:=SlIn.shape hin.2;have fz:=hS.out.row.frozenAt (j*4+3);(have hxc:xs[j].cells=[.int .i64 xs[j].n.fact,.slice ac xs[j].n.cuts.length cc,.slice ak xs[j].n.kids.length ck,.bool xs[j].n.leaf]:=by unfold DnA.cells;rw[hvc,hvk]);rw[hxc]at k0 k1 k2 k3;simp only[List.getElem?_cons_zero,List.getElem?_cons_succ,Nat.add_zero]at k0 k1 k2 k3;have HP:=Lib.hid (fun hk W' (hb:Below wr.heap.size wr W')=>NtS.put (hS.out.step hb) hlt hk HN3.out);have HQ:=Lib.hid (fun(hk:xs[j].n.kids≠[]) W' (hb:Below wr.heap.size wr W')=>NtS_inner hlt hk (hS.out.step hb));(have HSB:Hid (∀W',Below wr.heap.size wr W'->W'.cell? ⟨b3,0,none⟩=some (.slice (some ⟨g,0,none⟩) xs.length gc)/\ W'.frozen? ⟨g,j*4+3,none⟩=false/\ W'.cell? ⟨g,j*4+3,none⟩=some (.bool xs[j].n.leaf)):=fun W' hb=>⟨(hS.out.step hb).box.cell 0,(hS.out.step hb).row.frozenAt (j*4+3),by rw[(hS.out.step hb).at hlt 3 (by omega),hxc];rfl⟩);clear hin hvc hvk hxc hS HX1 HX3 HR3 HB3;generalize xs[j]=x at*;by_cases hk:x.n.kids=[];{(have hk0:x.n.kids.length=0:=by rw[hk];rfl);have HP2:=Lib.hid (HP.out hk);rw[hk0]at k2;clear HP HQ hk hk0;obtain⟨z1,fz1,cz1⟩:=HSB.out (wr.alloc (.cells #[.int .i64 x.n.fact,.slice ac x.n.cuts.length cc,.slice ak 0 ck,.bool x.n.leaf] 106)) ((Below.refl _ _).alloc (Nat.le_refl _) _);go_wp2;go_roundw;(case rel=>exact⟨j+1,by omega,by go_num,HP2.out _ ((Below.refl _ _).alloc (Nat.le_refl _) _)⟩);case measure=>simp[intOf];omega};{(have hk0:x.n.kids.length≠0:=fun e=>hk (List.length_eq_zero_iff.1 e));have HQ2:=Lib.hid (HQ.out hk);(have hk1:((x.n.kids.length:Int)==0)=false:=by simpa using hk);clear HP HQ hk;go_wp2;go_roundw;(case rel=>exact⟨j+1,by omega,by go_num,HQ2.out _ ((Below.refl _ _).alloc (Nat.le_refl _) _)⟩);case measure=>simp[intOf];omega}};{(obtain rfl:j=xs.length:=by omega);have n0:=hS.out.res.cell 0;have f0:=hS.out.res.frozen 0;have HS:=hS;have hsz:=hS.out.below.size;clear hS;go_wp2;have hcs:=(HS.out.res.set 0 (.slice (some ⟨g,0,none⟩) xs.length gc)).cell 0;refine bodyPost_ret (by simp[results,Tryz.results43,go_sem,hcs];try rfl) rfl ?_;have hr:=HS.out.row;rw[oppU_all]at hr;obtain⟨a1,c1,e1,e2⟩:=not_done hr (fun x hx=>⟨SlIn.mono (OneR.mono _) hsz (HS.out.ins x hx).1,SlIn.mono (OneR.mono _) hsz (HS.out.ins x hx).2⟩) HX1.out HS.out.res (.slice (some ⟨g,0,none⟩) xs.length gc);exact⟨a1,c1,by rw[<-e1],e2,HS.out.below.setCell (p:=⟨w.heap.size+1,0,none⟩) (by show w.heap.size<=w.heap.size+1;omega) _⟩})}
end
end Go.Proofs.YtihniipjfdenbaaGreatDoor
