/- The walk of Not: the opposite of a diagram. A bound on the table. -/
import Derived.Test.YtejbgoigkefnfaaGreatDoorAl
import Derived.Test.YtejbgoigkefnfaaGreatDoorDgRfP
set_option maxRecDepth 100000
set_option maxHeartbeats 4000000
namespace Go.Proofs.YtejbgoigkefnfaaGreatDoor
open Go.RowKit
theorem LB {α:Type}{P:Nat->α->Prop}:∀(n:Nat),(∀i,i<n->∃z,P i z)->∃l:List α,l.length=n/\ ∀i (h:i<l.length),P i l[i]
 | 0,_=>⟨[],rfl,fun i h=>by cases h⟩
 | n+1,h=>by{obtain⟨l,hl,hp⟩:=LB n (fun i hi=>h i ia);obtain⟨z,hz⟩:=h n ia;refine⟨l++[z],by simp[hl],fun i hi=>?_⟩;by_cases e:i<l.length;{rw[Qd e];exact hp i e};{(have:i=l.length:=by simp at hi;omega);subst this;rw[Jg (ja _)];simpa[hl]using hz}}
def Jh.In (w:World)(B:Nat)(x:Jh):Prop:=IntsIn w B x.n.Ja x.vc/\ IntsIn w B x.n.kids x.vk
theorem rl :∀(xs:List Jh) (k j:Nat) (hk:k<xs.length),j<4->(xs.flatMap Jh.cells)[k*4+j]? =xs[k].cells[j]?
 | x::xs,0,j,_,hj=>by{rw[jc,zf (by simp[Jh.cells];omega),Se,dc];rfl}
 | x::xs,k+1,j,hk,hj=>by{rw[jc,de (by simp[Jh.cells];omega)];have:=rl xs k j (by simpa using hk) hj;rw[show(k+1)*4+j-x.cells.length=k*4+j by simp[Jh.cells];omega,this];rfl}
theorem Av (xs:List Jh):(xs.flatMap Jh.cells).length=xs.length*4:=by
 induction xs with| nil=>rfl| cons x xs ih=>rw[jc,Ea,ih,ib,Ee];simp[Jh.cells];omega
theorem MO {w:World}{B:Nat}{t:List Dn}{ag:Option Addr}{cg:Nat}(h:Xa yo 4 w B t (.slice ag t.length cg)):∃xs:List Jh,xs.map (·.n)=t/\ (∀x∈xs,x.In w B)/\
  ∀a,ag=some a->t≠[]->∀j u,(xs.flatMap Jh.cells)[j]? =some u->a.spot=none/\ a.block<B/\ w.cell? ⟨a.block,a.off+j,none⟩=some u:=by
 obtain⟨_,_,e,_,_,h4⟩:=h;cases e
 by_cases hne:t=[]
 {subst hne;exact⟨[],rfl,fun x hx=>(by cases hx),fun _ _ hn=>absurd rfl hn⟩}
 ·obtain⟨b,off,rfl,hb,hc⟩:=h4 hne
  obtain⟨xs,hl,hx⟩:=LB (P:=fun i (z:Jh)=>∀hi:i<t.length,z.n=t[i]/\ z.In w B/\ ∀j,j<4->w.cell? ⟨b,off+i*4+j,none⟩=z.cells[j]?) t.length (fun i hi=>by
   obtain⟨vc,vk,c0,c1,c2,c3,h5,h6⟩:=hc i hi
   refine⟨⟨t[i],vc,vk⟩,fun _=>⟨rfl,⟨h5,h6⟩,fun j hj=>?_⟩⟩
   match j,hj with
   | 0,_=>exact c0
   | 1,_=>exact c1
   | 2,_=>exact c2
   | 3,_=>exact c3)
  refine⟨xs,?_,fun x hxm=>?_,fun a ha _ j u hu=>?_⟩
  {apply se (by simp[hl]);intro i h1 h2;rw[Gd];exact(hx i ia h2).1}
  {obtain⟨i,hi,rfl⟩:=zb hxm;exact(hx i hi ia).2.1}
  {(cases ha);(have hj:j<xs.length*4:=by rw[<-Av];exact(List.getElem?_eq_some_iff.1 hu).1);(have hd:j=j / 4*4+j % 4:=ia);refine⟨rfl,hb,?_⟩;have h1:=(hx (j / 4) ia ia).2.2 (j % 4) ia;rw[hd,rl xs (j / 4) (j % 4) ia ia]at hu;rw[hd, <-Sg];exact h1.trans hu}
theorem mL {W:World}{b:Nat}{v:Value}{xs:List Jh}(h:W.ownsRow b 56 4 v xs.length (xs.flatMap Jh.cells))(hx:∀x∈xs,x.In W W.heap.size):∃a c,v=.slice a (xs.map (·.n)).length c/\ oe W W.heap.size (xs.map (·.n)) (.agg #[.slice a (xs.map (·.n)).length c]):=by
 obtain⟨a,c,rfl⟩:=Wd h;refine⟨a,c,la,_,rfl,?_⟩;rcases h.2 with⟨e,hn⟩ | ⟨g,cap,cur,e,h1,h2,h3,h4,h5,h6⟩
 {obtain rfl:=List.length_eq_zero_iff.1 hn;(cases e);exact⟨none,0,rfl,ja _,xb _,fun h=>absurd rfl h⟩}
 {(cases e);refine⟨_,_,rfl,by simpa using h3,h4,fun hne=>⟨g,0,rfl,je h2,fun i hi=>?_⟩⟩;(have hi':i<xs.length:=by simpa using hi);(have key:∀j,j<4->W.cell? ⟨g,0+i*4+j,none⟩=xs[i].cells[j]? :=fun j hj=>by{rw[dc,h.cellAt (i*4+j) ia,rl xs i j hi' hj]});have hin:=hx xs[i] (Ga hi');rw[Gd];exact⟨xs[i].vc,xs[i].vk,key 0 ia,key 1 ia,key 2 ia,key 3 ia,hin.1,hin.2⟩}
theorem gI {t:List Dn}{ag:Option Addr}{cg:Nat}(w:World)(B:Nat)(hB:B<=w.heap.size)(hlen:t.length<=2000000)(hg:Xa yo 4 w B t (.slice ag t.length cg)):
  Calls Tryz.prog 84 #[.slice ag t.length cg] w fun e w'=>∃(v':Value) (xs:List Jh),e=.returned v'/\ xs.map (·.n)=t/\ (∀x∈xs,x.In w B)/\ w'.ownsRow w.heap.size 56 4 v' xs.length (xs.flatMap Jh.cells)/\ Below w.heap.size w w':=by
 obtain⟨xs,hx1,hx2,hx3⟩:=MO hg;obtain⟨_,_,e,h1,h2,h4⟩:=hg;cases e
 have xq:xs.length=t.length:=by rw[<-hx1];simp
 obtain⟨i0,hi0,hz0,hz1,hz2⟩:=info_parts Qo;have hq:=fun(w:World)=>Lib.run_eql_slice_nil (P:=Tryz.prog) w 32 56 ag t.length cg 0 0 Tryz.underlying32
 have HO:Hid ((w.alloc (.cells #[] 56)).ownsRow w.heap.size 56 4 (.slice (some ⟨w.heap.size,0,none⟩) 0 0) 0 []):=⟨rfl,.inr ⟨w.heap.size,0,#[],rfl,ja _,heap_alloc_new _ _,ja _,xb _,rfl,rfl⟩⟩;cases ag with| none=>{have hn:t=[]:=by{apply Classical.byContradiction;intro e;obtain⟨b,off,ha,_⟩:=h4 e;cases ha};have HN:=da hn;clear hn h4;have Wt:=da hx1;have Ws:=da hx2;clear hx1 hx2 hx3;go_enter Tryz.func84,Tryz.ntmps84;go_wp2;go_ret;have hn:=HN.out;subst hn;obtain rfl:xs=[]:=List.length_eq_zero_iff.1 xq;exact⟨_,[],rfl,rfl,Ws.out,ic _ _ _ _,za _ _⟩}| some a=>{have hnews:∀j u,(xs.flatMap Jh.cells)[j]? =some u->(w.alloc (.cells #[] 56)).cell? (a.add j)=some u:=by{intro j u hj;have hne:t≠[]:=by{intro e;have:xs=[]:=List.length_eq_zero_iff.1 (by rw[xq,e];rfl);rw[this]at hj;simp at hj};obtain⟨e1,e2,e3⟩:=hx3 a rfl hne j u hj;have OO:a.add j=⟨a.block,a.off+j,none⟩:=by{obtain⟨b,o,s⟩:=a;simp only at e1;subst e1;unfold Addr.add;split<;>simp_all};rw[OO,World.cell?_of_block (w:=w) (a:=⟨a.block,a.off+j,none⟩) (Tb w _ a.block ia)];exact e3};have HN:=da hnews;have Wt:=da hx1;have Ws:=da hx2;have hcl:=Av xs;(have Og:Hid ((xs.flatMap Jh.cells).length=t.length*4):=by show _=_;rw[hcl,xq]);have HXL:Hid (t.length=xs.length):=xq.symm;(have HOC:Hid (∀u∈xs.flatMap Jh.cells,Value.oneCell' u=true):=fun u hu=>by{obtain⟨y,hy,hu⟩:=List.mem_flatMap.1 hu;obtain⟨⟨_,_,e1,_⟩,⟨_,_,e2,_⟩⟩:=hx2 y hy;simp only[Jh.cells,He,Pf,or_false]at hu;(rcases hu with rfl | rfl | rfl | rfl);{rfl};{rw[e1];rfl};{rw[e2];rfl};{rfl}});clear h4 hnews hx1 hx2 hx3 hcl xq;go_enter Tryz.func84,Tryz.ntmps84;go_wp2_with (at_builtin;refine wpList_append_own_at _ rfl _ _ 32 rfl w.heap.size 56 i0 _ 4 64 Tryz.underlying32 hi0 hz0 hz1 hz2 rfl pa _ _ _ rfl HO.out a t.length cg (xs.flatMap Jh.cells) rfl Og.out HN.out HOC.out (by unfold maxLen;omega) ia la ?_;intro v' w1 Yk hgrow hnil hat;refine Hid.out ?_);refine da ?_;have hb0:Below w.heap.size w w1:=((za w.heap.size w).alloc (ja _) (.cells #[] 56)).grown hgrow la (fun k e=>by cases e;exact ja _);rw[dc,Ya]at Yk;have HW:=da Yk;clear Yk hgrow hnil hat;go_wp2;go_ret;exact⟨_,xs,rfl,Wt.out,Ws.out,(by rw[<-HXL.out];exact HW.out),hb0⟩}
section
def Jh.iI (x:Jh):Jh:=⟨Mn x.n,x.vc,x.vk⟩
def Wq (j:Nat)(xs:List Jh):List Jh:=(xs.take j).map Jh.iI++xs.drop j
theorem vF (j:Nat)(xs:List Jh):(Wq j xs).length=xs.length:=by unfold Wq;simp;omega
theorem aD {j:Nat}{xs:List Jh}(h:j<xs.length):Wq j xs=(xs.take j).map Jh.iI++xs[j]::xs.drop (j+1):=by unfold Wq;rw[Qb h]
theorem MB {j:Nat}{xs:List Jh}(h:j<xs.length):Wq (j+1) xs=(xs.take j).map Jh.iI++xs[j].iI::xs.drop (j+1):=by
 unfold Wq;rw[Ka h,Lb,Ua];rfl
theorem PO {j:Nat}{xs:List Jh}(h:j<xs.length):(Wq j xs)[j]'(by rw[vF];exact h)=xs[j]:=by
 have hl:((xs.take j).map Jh.iI).length=j:=by simp;omega
 have e:(Wq j xs)[j]? =some xs[j]:=by{rw[aD h,de ia,hl,mh];rfl}
 exact(List.getElem?_eq_some_iff.1 e).2
theorem nL {j:Nat}{xs:List Jh}(h:j<xs.length)(hk:xs[j].n.kids=[]):((Wq j xs).flatMap Jh.cells).set (j*4+3) (.bool (!xs[j].n.leaf))=(Wq (j+1) xs).flatMap Jh.cells:=by
 rw[aD h,MB h,Pc,Pc,jc,jc];have hl:(((xs.take j).map Jh.iI).flatMap Jh.cells).length=j*4:=by rw[Av];simp;omega
 rw[og _ _ ia,hl,show j*4+3-j*4=3 by omega]
 have:xs[j].iI.cells=[.int .i64 xs[j].n.fact,xs[j].vc,xs[j].vk,.bool (!xs[j].n.leaf)]:=by{unfold Jh.iI Jh.cells Mn;rw[if_pos hk]}
 rw[this];rfl
theorem oL {x:Jh}(hk:x.n.kids≠[]):x.iI=x:=by
 obtain⟨n,vc,vk⟩:=x;unfold Jh.iI Mn;rw[Aa hk]
theorem jI {j:Nat}{xs:List Jh}(h:j<xs.length)(hk:xs[j].n.kids≠[]):Wq (j+1) xs=Wq j xs:=by rw[aD h,MB h,oL hk]
theorem QO {xs:List Jh}:Wq xs.length xs=xs.map Jh.iI:=by unfold Wq;simp
theorem qL {xs:List Jh}:Wq 0 xs=xs:=by unfold Wq;simp
structure rL (w W : World) (xs : List Jh) (g cap b3 j : Nat) : Prop where
 below:Below w.heap.size w W
 row:W.ownsRow (w.heap.size+2) 56 4 (.slice (some ⟨g,0,none⟩) xs.length cap) xs.length ((Wq j xs).flatMap Jh.cells)
 box:Bb W b3 34 #[.slice (some ⟨g,0,none⟩) xs.length cap]
 res:Bb W (w.heap.size+1) 34 #[.slice none 0 0]
 ins:∀x∈xs,x.In W w.heap.size
variable {w W W' : World} {xs : List Jh} {g cap b3 j : Nat}
theorem rL.step (h:rL w W xs g cap b3 j)(hb:Below W.heap.size W W'):rL w W' xs g cap b3 j:=
 ⟨h.below.trans (hb.mono h.below.size),Nd h.row hb,h.box.below hb,h.res.below hb,fun x hx=>⟨IntsIn.below (hb.mono h.below.size) (h.ins x hx).1,IntsIn.below (hb.mono h.below.size) (h.ins x hx).2⟩⟩
theorem rL.put (h:rL w W xs g cap b3 j)(hj:j<xs.length)(hk:xs[j].n.kids=[])(Lc:b3≠g):rL w (W.setCell ⟨g,j*4+3,none⟩ (.bool (!xs[j].n.leaf))) xs g cap b3 (j+1):=by
 have hg:=h.row.lt g rfl;have hs:=h.row.stored (j*4+3) (.bool (!xs[j].n.leaf));have q:=hs.1;rw[nL hj hk]at q
 have far:∀ {b:Nat} {cs:Array Value},Bb W b 34 cs->g≠b->Bb (W.setCell ⟨g,j*4+3,none⟩ (.bool (!xs[j].n.leaf))) b 34 cs:=fun{b cs} hb hne=>by
  show(W.heap.modify g _)[b]? =_
  rw[uf,Aa hne];exact hb
 have hb:Below w.heap.size W (W.setCell ⟨g,j*4+3,none⟩ (.bool (!xs[j].n.leaf))):=((za w.heap.size W)).setCell (p:=⟨g,j*4+3,none⟩) (by show w.heap.size<=g;omega) _;exact⟨h.below.setCell (p:=⟨g,j*4+3,none⟩) (by show w.heap.size<=g;omega) _,q,far h.box (fun e=>Lc e.symm),far h.res ia,fun x hx=>⟨IntsIn.below hb (h.ins x hx).1,IntsIn.below hb (h.ins x hx).2⟩⟩
theorem rL.at (h:rL w W xs g cap b3 j)(hj:j<xs.length)(i:Nat)(hi:i<4):W.cell? ⟨g,j*4+i,none⟩=xs[j].cells[i]? :=by
 rw[h.row.cellAt (j*4+i) ia,rl _ j i (by rw[vF];exact hj) hi,PO hj]
theorem tL {w W:World}{xs:List Jh}{g cap b3 j:Nat}(hj:j<xs.length)(hk:xs[j].n.kids≠[])(h:rL w W xs g cap b3 j):rL w W xs g cap b3 (j+1):=⟨h.below,by rw[jI hj hk];exact h.row,h.box,h.res,h.ins⟩
theorem xF {t:List Dn}{b r:Nat}{v:Value}{o:Option Addr}{n c:Nat}(h:W.ownsRow b 56 4 v xs.length ((xs.map Jh.iI).flatMap Jh.cells))(hin:∀x∈xs,x.In W W.heap.size)(ht:xs.map (·.n)=t)(hr:Bb W r 34 #[.slice o n c])(u:Value):
  ∃a c,v=.slice a (xh t).length c/\ oe (W.setCell ⟨r,0,none⟩ u) (W.setCell ⟨r,0,none⟩ u).heap.size (xh t) (.agg #[.slice a (xh t).length c]):=by
 have hm:(xs.map Jh.iI).map (·.n)=xh t:=by{rw[<-ht,ti];unfold xh;rw[ti];rfl}
 have h':W.ownsRow b 56 4 v (xs.map Jh.iI).length ((xs.map Jh.iI).flatMap Jh.cells):=by rw[Sa];exact h
 obtain⟨a,c,e1,e2⟩:=mL h' (fun x hx=>by
  obtain⟨y,hy,rfl⟩:=List.mem_map.1 hx
  exact hin y hy)
 rw[hm]at e1 e2;exact⟨a,c,e1,by rw[mf];exact e2.set hr u⟩
theorem RO {t:List Dn}{vg:Value}{w:World}(hlen:t.length<=1000000)(hg:oe w w.heap.size t vg):
  Calls Tryz.prog 32 #[vg] w fun e w'=>∃(a:Option Addr) (c:Nat),e=.returned (.agg #[.slice a (xh t).length c])/\ oe w' w'.heap.size (xh t) (.agg #[.slice a (xh t).length c])/\ Below w.heap.size w w':=by
 obtain⟨_,rfl,hg2⟩:=hg;have HG:=da hg2;obtain⟨a,c,rfl,l1,l2,_⟩:=Xa.shape hg2;unfold maxLen at l2;have ud:Below w.heap.size w ((w.alloc (.cells #[.slice a t.length c] 34)).alloc (.cells #[.slice none 0 0] 34)):=((za _ _).alloc (ja _) _).alloc la _;have HK:Hid (Bb ((w.alloc (.cells #[.slice a t.length c] 34)).alloc (.cells #[.slice none 0 0] 34)) w.heap.size 34 #[.slice a t.length c]):=(Bb.new w 34 #[.slice a t.length c]).alloc _
 have HR:Hid (Bb ((w.alloc (.cells #[.slice a t.length c] 34)).alloc (.cells #[.slice none 0 0] 34)) (w.heap.size+1) 34 #[.slice none 0 0]):=by{have q:=Bb.new (w.alloc (.cells #[.slice a t.length c] 34)) 34 #[.slice none 0 0];rw[Ba]at q;exact q}
 have qm:(((w.alloc (.cells #[.slice a t.length c] 34)).alloc (.cells #[.slice none 0 0] 34))).heap.size=w.heap.size+2:=by simp
 obtain⟨W,hW⟩:∃W,((w.alloc (.cells #[.slice a t.length c] 34)).alloc (.cells #[.slice none 0 0] 34))=W:=⟨_,rfl⟩;rw[hW]at ud HK HR qm;have HW:=da hW;have Vd:=da ud
 have HC:Hid (Calls Tryz.prog 84 #[.slice a t.length c] W fun e w'=>∃(v':Value) (xs:List Jh),e=.returned v'/\ xs.map (·.n)=t/\ (∀x∈xs,x.In W w.heap.size)/\ w'.ownsRow W.heap.size 56 4 v' xs.length (xs.flatMap Jh.cells)/\ Below W.heap.size W w'):=
  gI W w.heap.size ud.size ia (Xa.below yo.kept ud hg2)
 have x0:=HK.out.cell 0;clear hg2 hW ud;go_enter Tryz.func32,Tryz.ntmps32;go_upto_region 1 with(fail);rw[HW.out];go_upto_region 2 with(go_at_call 84;refine HC.out.mono ?_;rintro e w1 ⟨v1,xs,rfl,hx1,hx2,hown,Ff⟩;obtain⟨ga,gc,rfl⟩:=Wd hown);have Ve:=da (Vd.out.trans (Ff.mono Vd.out.size));have uL:=da (HR.out.below Ff);have Wt:=da hx1;have Ws:Hid (∀x∈xs,x.In w1 w.heap.size):=fun x hx=>⟨IntsIn.below (Ff.mono Vd.out.size) (hx2 x hx).1,IntsIn.below (Ff.mono Vd.out.size) (hx2 x hx).2⟩
 have HZ:=da Ff.size;have Lc:Below w1.heap.size w1 (w1.alloc (.cells #[.slice ga xs.length gc] 34)):=(za _ _).alloc (ja _) _;have Qc:Hid (Below w.heap.size w (w1.alloc (.cells #[.slice ga xs.length gc] 34))):=Ve.out.trans (Lc.mono Ve.out.size);have Ss:=da (uL.out.below Lc);have HO:Hid ((w1.alloc (.cells #[.slice ga xs.length gc] 34)).ownsRow W.heap.size 56 4 (.slice ga xs.length gc) xs.length (xs.flatMap Jh.cells)):=Nd hown Lc;have ou:Hid (Bb (w1.alloc (.cells #[.slice ga xs.length gc] 34)) w1.heap.size 34 #[.slice ga xs.length gc]):=Bb.new _ _ _;have nA:Hid (∀x∈xs,x.In (w1.alloc (.cells #[.slice ga xs.length gc] 34)) w.heap.size):=fun x hx=>⟨IntsIn.below (Lc.mono Ve.out.size) (Ws.out x hx).1,IntsIn.below (Lc.mono Ve.out.size) (Ws.out x hx).2⟩
 have HLT:Hid (∀k,(Value.slice ga xs.length gc).ownBlock=some k->k<w1.heap.size):=fun k hk=>(hown.lt k hk).2
 have xq:t.length=xs.length:=by rw[<-hx1];simp
 have hlx:xs.length<=1000000:=by omega
 have hz1:w.heap.size+2<=w1.heap.size:=by have:=Ff.size;omega
 have Ym:(w1.alloc (.cells #[.slice ga xs.length gc] 34)).heap.size=w1.heap.size+1:=by simp
 clear hx1 hx2 hown Ff Lc Ws uL Ve HC HK HR HW x0 HG xq l1 l2;generalize w1.alloc (.cells #[.slice ga xs.length gc] 34)=W3 at*
 generalize w1.heap.size=b3 at*
 have z0:=ou.out.cell 0;by_cases hne:xs.length=0
 {obtain rfl:xs=[]:=List.length_eq_zero_iff.1 hne;have n0:=Ss.out.cell 0;have f0:=Ss.out.frozen 0;go_wp2;go_loopw [13] (fun iv wr=>iv=.int .i64 0/\ Hid (wr=W3)) (fun _ _=>0);(case atStart=>exact⟨rfl,rfl⟩);case round=>(obtain⟨rfl,hwr⟩:=hrel;obtain rfl:=hwr.out;go_wp2;have hcs:=(Ss.out.set 0 (.slice ga 0 gc)).cell 0;refine Qa (by simp[results,Tryz.results32,go_sem,hcs];try rfl) rfl ?_;obtain⟨a1,c1,e1,e2⟩:=xF (xs:=[]) HO.out (fun x hx=>by cases hx) Wt.out Ss.out (.slice ga 0 gc);exact⟨a1,c1,by rw[<-e1];rfl,e2,Qc.out.setCell (p:=⟨w.heap.size+1,0,none⟩) (by show w.heap.size<=w.heap.size+1;omega) _⟩)}
 {obtain⟨g,cap,RG,KA,hg2⟩:=HO.out.form ia;simp only[Value.slice.injEq,true_and]at RG;obtain⟨rfl,rfl⟩:=RG;(have hn3:b3≠g:=by have:=HLT.out g rfl;omega);have HS:Hid (rL w W3 xs g gc b3 0):=⟨Qc.out,by rw[qL, <-qm];exact HO.out,ou.out,Ss.out,nA.out⟩;have HN3:=da hn3;go_wp2;go_loopw [13] (fun iv wr=>∃j:Nat,j<=xs.length/\ iv=.int .i64 j/\ Hid (rL w wr xs g gc b3 j)) (fun iv _=>xs.length-(intOf iv).toNat);(case atStart=>exact⟨0,ia,rfl,HS⟩);case round=>(obtain⟨j,hj,rfl,hS⟩:=hrel;clear HS HO ou z0;have z0:=hS.out.box.cell 0;by_cases hlt:j<xs.length;{have k0:=hS.out.at hlt 0 ia;have k1:=hS.out.at hlt 1 ia;have k2:=hS.out.at hlt 2 ia;have k3:=hS.out.at hlt 3 ia;have hin:=hS.out.ins xs[j] (Ga hlt);obtain⟨ac,cc,tW,_⟩:=Xa.shape hin.1;obtain⟨ak,ck,DO,_⟩:=Xa.shape hin.2;have fz:=hS.out.row.frozenAt (j*4+3);(have hxc:xs[j].cells=[.int .i64 xs[j].n.fact,.slice ac xs[j].n.Ja.length cc,.slice ak xs[j].n.kids.length ck,.bool xs[j].n.leaf]:=by unfold Jh.cells;rw[tW,DO]);rw[hxc]at k0 k1 k2 k3;simp only[Zb,Ec,Ag]at k0 k1 k2 k3;have HP:=da (fun hk W' (hb:Below wr.heap.size wr W')=>rL.put (hS.out.step hb) hlt hk HN3.out);have HQ:=da (fun(hk:xs[j].n.kids≠[]) W' (hb:Below wr.heap.size wr W')=>tL hlt hk (hS.out.step hb));(have Yz:Hid (∀W',Below wr.heap.size wr W'->W'.cell? ⟨b3,0,none⟩=some (.slice (some ⟨g,0,none⟩) xs.length gc)/\ W'.frozen? ⟨g,j*4+3,none⟩=false/\ W'.cell? ⟨g,j*4+3,none⟩=some (.bool xs[j].n.leaf)):=fun W' hb=>⟨(hS.out.step hb).box.cell 0,(hS.out.step hb).row.frozenAt (j*4+3),by rw[(hS.out.step hb).at hlt 3 ia,hxc];rfl⟩);clear hin tW DO hxc hS Wt nA Ss Qc;generalize xs[j]=x at*;by_cases hk:x.n.kids=[];{(have hk0:x.n.kids.length=0:=by rw[hk];rfl);have KU:=da (HP.out hk);rw[hk0]at k2;clear HP HQ hk hk0;obtain⟨z1,fz1,cz1⟩:=Yz.out (wr.alloc (.cells #[.int .i64 x.n.fact,.slice ac x.n.Ja.length cc,.slice ak 0 ck,.bool x.n.leaf] 56)) ((za _ _).alloc (ja _) _);go_wp2;go_roundw;(case rel=>exact⟨j+1,ia,by go_num,KU.out _ ((za _ _).alloc (ja _) _)⟩);case measure=>simp[intOf];omega};{(have hk0:x.n.kids.length≠0:=fun e=>hk (List.length_eq_zero_iff.1 e));have zK:=da (HQ.out hk);(have hk1:((x.n.kids.length:Int)==0)=false:=by simpa using hk);clear HP HQ hk;go_wp2;go_roundw;(case rel=>exact⟨j+1,ia,by go_num,zK.out _ ((za _ _).alloc (ja _) _)⟩);case measure=>simp[intOf];omega}};{(obtain rfl:j=xs.length:=ia);have n0:=hS.out.res.cell 0;have f0:=hS.out.res.frozen 0;have HS:=hS;have hsz:=hS.out.below.size;clear hS;go_wp2;have hcs:=(HS.out.res.set 0 (.slice (some ⟨g,0,none⟩) xs.length gc)).cell 0;refine Qa (by simp[results,Tryz.results32,go_sem,hcs];try rfl) rfl ?_;have hr:=HS.out.row;rw[QO]at hr;obtain⟨a1,c1,e1,e2⟩:=xF hr (fun x hx=>⟨Xa.mono (bm.mono _) hsz (HS.out.ins x hx).1,Xa.mono (bm.mono _) hsz (HS.out.ins x hx).2⟩) Wt.out HS.out.res (.slice (some ⟨g,0,none⟩) xs.length gc);exact⟨a1,c1,by rw[<-e1],e2,HS.out.below.setCell (p:=⟨w.heap.size+1,0,none⟩) (by show w.heap.size<=w.heap.size+1;omega) _⟩})}
theorem DW {W w:World}{t:List Dn}{b:Nat}{a:Option Addr}{c:Nat}(hl:t.length<=1000000)(HV:Hid (Ep W b t a c))(hW:Hid (Below W.heap.size W w)):
  Calls Tryz.prog 32 #[.agg #[.slice a t.length c]] w fun e w'=>∃(x:Option Addr) (k:Nat),e=.returned (.agg #[.slice x (xh t).length k])/\ Hid (oe w' w'.heap.size (xh t) (.agg #[.slice x (xh t).length k]))/\ Hid (Below W.heap.size W w'):=by
 refine(RO hl (HV.out.step hW.out).dg).mono ?_;rintro e w' ⟨x,k,rfl,h1,h2⟩;exact⟨x,k,rfl,h1,jh hW h2⟩
end
end Go.Proofs.YtejbgoigkefnfaaGreatDoor
