/- A formula in memory whose blocks have a property: what a step that keeps those blocks leaves; rows of formulas of the call's own. No conditions. -/
import Derived.Test.YtihniipjfdenbaaGreatDoorDgIW
import Derived.Lib.Slices
import Derived.Handy
set_option maxRecDepth 100000
set_option maxHeartbeats 4000000
namespace Go.Proofs.YtihniipjfdenbaaGreatDoor
section
open Go.RowKit
abbrev natW (x:Nat):Value:=.int .i64 (x:Int)
def placeL (o:List Nat):List (Int×Int):=o.zipIdx.map fun p=>((p.1:Int),(p.2:Int))
theorem placeL_snoc (o:List Nat)(x:Nat):placeL (o++[x])=placeL o++[((x:Int),(o.length:Int))]:=by
 unfold placeL;rw[List.zipIdx_append];simp
theorem placeL_look0 (x:Nat):∀(o:List Nat) (k:Nat),((o.zipIdx k).map fun p=>((p.1:Int),(p.2:Int))).lookup (x:Int)=if x∈o then some ((k+o.idxOf x:Nat):Int)else none
 | [],_=>by simp
 | y::o,k=>by
  rw[List.zipIdx_cons,List.map_cons,List.lookup_cons];by_cases h:x=y
  ·subst h;simp
  ·have h1:((x:Int)==(y:Int))=false:=by simp;omega
   have h2:(y==x)=false:=by rw[beq_eq_false_iff_ne];exact fun e=>h e.symm
   dsimp only
   rw[h1]
   dsimp only
   rw[placeL_look0 x o (k+1)];by_cases hm:x∈o
   ·rw[if_pos hm,if_pos (List.mem_cons_of_mem _ hm),List.idxOf_cons,h2]
    simp only[cond_false];congr 2
    omega
   ·rw[if_neg hm,if_neg (by simp[h,hm])]
theorem placeL_look (o:List Nat)(x:Nat):(placeL o).lookup (x:Int)=if x∈o then some ((o.idxOf x:Nat):Int)else none:=by
 have:=placeL_look0 x o 0;rw[Nat.zero_add]at this;exact this
structure EnvV (w0 : World) (H0 mb : Nat) : Prop where
 m:Blk w0 H0 127 #[.pointer (some ⟨mb,0,none⟩)]
 p:Blk w0 (H0+3) 189 #[.map (some (H0+2))]
 v:Blk w0 (H0+5) 190 #[.func (.func 157) #[] #[.pointer (some ⟨H0+3,0,none⟩),.pointer (some ⟨H0+4,0,none⟩),.pointer (some ⟨H0,0,none⟩),.pointer (some ⟨H0+5,0,none⟩)]]
 size:H0+6<=w0.heap.size
structure StV (w0 : World) (H0 : Nat) (o : List Nat) (W : World) : Prop where
 os:W.os=w0.os
 tape:W.tape=w0.tape
 output:W.output=w0.output
 size:w0.heap.size<=W.heap.size
 old:∀b,b<w0.heap.size->b≠H0+2->b≠H0+4->W.heap[b]? =w0.heap[b]?
 map:MapIs (Value.int .i64) (Value.int .i64) W (H0+2) (placeL o)
 ord:∃v,Blk W (H0+4) 26 #[v]/\ W.ownsRow w0.heap.size 3 1 v o.length (o.map natW)
theorem StV.below {w0 W:World}{H0:Nat}{o:List Nat}(h:StV w0 H0 o W)(hs:H0+6<=w0.heap.size):Below (H0+2) w0 W:=
 ⟨h.os,h.tape,h.output,h.size,fun b hb=>h.old b (by omega) (by omega) (by omega)⟩
theorem zero_int_3 :∀w,(zeroValue 3).run Tryz.prog w=.ok (.int .i64 0) w:=Tryz.zeroValue3
theorem MapII.key :KeyLaw (Value.int .i64) Tryz.prog 3:=keyInt Tryz.underlying3
theorem StV.push {w0 W W1 W2 w3:World}{H0:Nat}{o:List Nat}{x:Nat}{v:Value}(hs:H0+6<=w0.heap.size)(h:StV w0 H0 o W)(hx:x∉o)(hv:Blk W (H0+4) 26 #[v])(hown:W.ownsRow w0.heap.size 3 1 v o.length (o.map natW))
  (hm:MapIs (Value.int .i64) (Value.int .i64) W1 (H0+2) (ins (placeL o) (x:Int) (o.length:Int))) (hu:Upd (H0+2) W W1) (hb:Below W1.heap.size W1 W2) {g cap:Nat}
  (ho2:w3.ownsRow w0.heap.size 3 1 (.slice (some ⟨g,0,none⟩) (o.length+1) cap) (o.length+1) (o.map natW++[natW x])) (hg:W2.grownBy w3 v.ownBlock):
  StV w0 H0 (o++[x]) (w3.setCell ⟨H0+4,0,none⟩ (.slice (some ⟨g,0,none⟩) (o.length+1) cap)):=by
 have hvb:∀b,v.ownBlock=some b->w0.heap.size<=b:=fun b e=>(hown.lt b e).1
 have hsz:=h.size;have hsz1:=hu.size;have hsz2:=hb.size
 have hb1:∀b,b<w0.heap.size->b≠H0+2->w3.heap[b]? =W.heap[b]? :=fun b hb0 hne=>by
  rw[hg.block b (by omega) (fun e=>by have:=hvb b e.symm;omega),hb.block b (by omega),hu.block b hne]
 refine⟨(((hg.os.trans hb.os).trans hu.os).trans h.os),((hg.tape.trans hb.tape).trans hu.tape).trans h.tape,((hg.output.trans hb.output).trans hu.output).trans h.output,by have:=hg.size;simp;omega,fun b hb0 h2 h4=>?_,?_,⟨.slice (some ⟨g,0,none⟩) (o.length+1) cap,?_,?_⟩⟩
 ·rw[Below.heap_setCell _ _ _ b (fun e=>h4 e),hb1 b hb0 h2,h.old b hb0 h2 h4]
 ·obtain⟨es,c,e1,e2⟩:=hm
  refine⟨es,c,?_,?_⟩
  ·rw[Below.heap_setCell _ _ _ (H0+2) (by show H0+2≠H0+4;omega),hg.block _ (by have:=heap_lt e1;omega) (fun e=>by have:=hvb _ e.symm;omega),hb.block _ (heap_lt e1)]
   exact e1
  ·rw[placeL_snoc,e2,ins_none _ _ _ (by rw[placeL_look,if_neg hx])]
 ·have:Blk w3 (H0+4) 26 #[v]:=(hb1 (H0+4) (by omega) (by omega)).trans hv
  exact this.set 0 _
 ·rw[List.length_append,List.map_append]
  exact own_struck ho2 _ _ fun g' e=>by have:=(ho2.lt g' e).1;show g'≠H0+4;omega
theorem MkIs.node {W:World}{H mb:Nat}{S:List Nat}{t:List Dn}(h:MkIs W H mb S t)(k:Nat)(hk:k<t.length):∃g cap vc vk mo,W.cell? ⟨mb,0,none⟩=some (.slice (some ⟨g,0,none⟩) t.length cap)/\ W.cell? ⟨mb,1,none⟩=some mo/\ H<=g/\ g<W.heap.size/\ mb<W.heap.size/\ t.length<=cap/\ cap<=maxLen/\
  W.cell? ⟨g,k*4,none⟩=some (.int .i64 (t.getD k default).fact)/\ W.cell? ⟨g,k*4+1,none⟩=some vc/\ W.cell? ⟨g,k*4+2,none⟩=some vk/\ W.cell? ⟨g,k*4+3,none⟩=some (.bool (t.getD k default).leaf)/\ IntsF W H S (t.getD k default).cuts vc/\ IntsF W H S (t.getD k default).kids vk:=by
 obtain⟨hge,⟨v,mo,xs,h1,h2,h3,h4,h5⟩,h6⟩:=h;have hxl:xs.length=t.length:=by rw[<-h3,List.length_map]
 rw[hxl]at h2;obtain⟨g,cap,rfl,hg,hglt⟩:=h2.form (by omega)
 have hcap:t.length<=cap/\ cap<=maxLen:=by
  rcases h2.2 with⟨e,_⟩ | ⟨g',cap',cur,e,_,_,q1,q2,_⟩
  ·cases e
  ·cases e;exact⟨q1,q2⟩
 have hk':k<xs.length:=by omega
 have hx:=h4 xs[k] (List.getElem_mem hk')
 have hn:xs[k].n=t.getD k default:=by
  rw[getD_dg _ _ _ hk];simp only[<-h3,List.getElem_map]
 have hc:∀j,j<4->W.cell? ⟨g,k*4+j,none⟩=xs[k].cells[j]? :=fun j hj=>by
  rw[h2.cellAt _ (by omega)]
  have flat:∀(xs:List DnA) (k:Nat) (hk:k<xs.length),(xs.flatMap DnA.cells)[k*4+j]? =xs[k].cells[j]? :=by
   intro xs
   induction xs with
   | nil=>intro k hk;simp at hk
   | cons x xs ih=>
    intro k hk;cases k with
    | zero=>rw[List.flatMap_cons,List.getElem?_append_left (by show _<4;omega)];simp
    | succ k=>
     rw[List.flatMap_cons,List.getElem?_append_right (by show 4<=_;omega),show(k+1)*4+j-x.cells.length=k*4+j by show _-4=_;omega,ih k (by simpa using hk)]
     simp
  exact flat xs k hk'
 refine⟨g,cap,xs[k].vc,xs[k].vk,_,h1.cell 0,h1.cell 1,hg,hglt,h1.lt,hcap.1,hcap.2,?_,?_,?_,?_,?_,?_⟩
 ·rw[<-hn];exact hc 0 (by omega)
 ·exact hc 1 (by omega)
 ·exact hc 2 (by omega)
 ·rw[<-hn];exact hc 3 (by omega)
 ·rw[<-hn];exact hx.cuts
 ·rw[<-hn];exact hx.kids
abbrev VisD (w0:World)(H0:Nat)(nf:Nat)(t:List Dn)(f:Nat):Prop:=
 ∀(x:Nat) (o:List Nat) (W:World),x<t.length->nf-rankD nf (t.getD x default)<f->o.Nodup->(∀y∈o,y<t.length)->StV w0 H0 o W->
  Calls Tryz.prog 157 #[.int .i64 (x:Int),.pointer (some ⟨H0+3,0,none⟩),.pointer (some ⟨H0+4,0,none⟩),.pointer (some ⟨H0,0,none⟩),.pointer (some ⟨H0+5,0,none⟩)] W fun e W'=>e=.returned (.tuple #[])/\ StV w0 H0 (visitD t f o x) W'
theorem StV.blk {w0 W:World}{H0:Nat}{o:List Nat}(h:StV w0 H0 o W){b:Nat}{ty:TypeId}{cs:Array Value}(hb:Blk w0 b ty cs)(h2:b≠H0+2)(h4:b≠H0+4):Blk W b ty cs:=(h.old b hb.lt h2 h4).trans hb
theorem visit_step {nf:Nat}{lo hi:Nat->Int}{t:List Dn}(w00 w0:World)(H H0 mb:Nat)(S:List Nat)(hE:EnvV w0 H0 mb)(h00:w00.heap.size=H0)(hm:MkIs w00 H mb S t)(hb0:Below H0 w00 w0)(hmb:w0.heap.size=H0+6)
  (hT:TableD nf lo hi t) (hl:t.length<=900000) (f:Nat) (IH:VisD w0 H0 nf t f):VisD w0 H0 nf t (f+1):=by
 intro x o W hx hf hnd hin hst;obtain⟨v,hvb,hown⟩:=hst.ord;have hsz:=hst.size;have b1:=(hst.blk hE.m (by omega) (by omega)).cell 0;have b2:=(hst.blk hE.p (by omega) (by omega)).cell 0;have b3:=(hst.blk hE.v (by omega) (by omega)).cell 0;have b4:=hvb.cell 0;have hlk:=run_look_ok MapII.key Tryz.underlying189 zero_int_3 hst.map (x:Int);rw[placeL_look]at hlk
 have hol:o.length<=t.length:=by
  have:=List.Nodup.length_le_of_subset hnd (l₂:=List.range t.length) (fun y hy=>List.mem_range.2 (hin y hy))
  rwa[List.length_range]at this
 by_cases hxo:x∈o
 ·rw[if_pos hxo]at hlk
  have HV:=Lib.hid (show visitD t (f+1) o x=o by rw[visitD,if_pos hxo]);have HS:=Lib.hid hst;clear hst hvb hown hxo IH;go_enter Tryz.func157,Tryz.ntmps157;go_wp2;refine bodyPost_ret (results_none rfl _ _ _) rfl ?_;rw[HV.out];exact⟨rfl,HS.out⟩
 ·rw[if_neg hxo]at hlk
  have HV:=Lib.hid (show visitD t (f+1) o x=((t.getD x default).kids).foldl (fun o k=>visitD t f o k.toNat) (o++[x]) by rw[visitD,if_neg hxo]);obtain⟨i0,hi0,hz0,hz1,hz2⟩:=info_parts intInfo3;obtain⟨W1,hrun1,hm1,hu1⟩:=run_store MapII.key Tryz.underlying189 hst.map (x:Int) (o.length:Int);obtain⟨va,vcap,hvs⟩:=own_len hown;have hu1s:W.heap.size<=W1.heap.size:=Nat.le_of_eq hu1.size.symm;have c1:=(hu1.cell (p:=⟨H0,0,none⟩) (by show H0≠_;omega)).trans b1;have c2:=(hu1.cell (p:=⟨H0+3,0,none⟩) (by show H0+3≠_;omega)).trans b2;have c3:=(hu1.cell (p:=⟨H0+5,0,none⟩) (by show H0+5≠_;omega)).trans b3;have c4:=(hu1.cell (p:=⟨H0+4,0,none⟩) (by show H0+4≠_;omega)).trans b4;have hvb1:Blk W1 (H0+4) 26 #[v]:=(hu1.block _ (by omega)).trans hvb;have z4:=hvb1.frozen 0;have hown1:W1.ownsRow w0.heap.size 3 1 v o.length (o.map natW):=own_block hown fun g hg=>hu1.block g (by have:=(hown.lt g hg).1;omega)
  have HPUSH:=Lib.hid (fun(W2 w3:World) (hb:Below W1.heap.size W1 W2) g cap ho2 hg=>hst.push (W2:=W2) (w3:=w3) (g:=g) (cap:=cap) (by omega) hxo hvb hown hm1 hu1 hb ho2 hg);have HOWN1:=Lib.hid hown1
  have HNI:=Lib.hid (show(o++[x]).Nodup/\ ∀y∈o++[x],y<t.length from⟨by
   rw[List.nodup_append]
   exact⟨hnd,by simp,fun a ha b hb e=>by rw[List.mem_singleton]at hb;subst hb;subst e;exact hxo ha⟩,fun y hy=>by
   rcases List.mem_append.1 hy with hy | hy
   ·exact hin y hy
   ·rw[List.mem_singleton]at hy;rw[hy];exact hx⟩)
  subst hvs;obtain⟨g,cap,vc,vk,mo,e0,_,_,hglt,hmlt,hcap1,hcap2,_,_,e2,_,_,hkids⟩:=hm.node x hx
  have hkd:∀k∈(t.getD x default).kids,k.toNat<t.length/\ nf-rankD nf (t.getD k.toNat default)<f/\ 0<=k:=by
   intro k hk;have hne:=List.ne_nil_of_mem hk;have h1:=((hT x hx).inner hne).2.2.2.2.2.2.2 k hk;have h2:(t.getD x default).fact.toNat<rankD nf (t.getD k.toNat default):=h1.2.2;have h3:rankD nf (t.getD x default)=(t.getD x default).fact.toNat:=by unfold rankD;rw[if_neg hne]
   have h4:=rank_le_nf hT h1.2.1;exact⟨h1.2.1,by omega,h1.1⟩
  have hkl:(t.getD x default).kids.length<=maxLen:=by
   obtain⟨ao,cp,_,q1,q2,_⟩:=SlIn.shape hkids.1;omega
  have HKD:=Lib.hid hkd;have HKI:=Lib.hid hkids;obtain⟨ka,kc,hvk,kl1,kl2,_⟩:=SlIn.shape hkids.1;subst hvk;have HIH:=Lib.hid IH;have HE:=Lib.hid hE;have HB0:=Lib.hid hb0;generalize(t.getD x default).kids=kids at*
  unfold maxLen at hkl kl2 hcap2;clear hst hvb hown hm1 hu1 hvb1 hown1 hnd hin hxo hm hkids hkd IH hE hb0;have hT0:=hT;clear hT;go_enter Tryz.func157,Tryz.ntmps157;go_wp2_with (at_builtin;refine wpList_append_own_at _ (by rfl) _ _ 26 (by rfl) w0.heap.size 3 i0 _ 1 8 Tryz.underlying26 hi0 hz0 hz1 hz2 rfl (by decide) _ o.length _ (by rfl) (HOWN1.out.alloc _) ⟨W1.heap.size,0,none⟩ 1 1 [natW x] (by rfl) (by rfl) (cell_one_new _ _ _) (by intro u hu;simp at hu;subst hu;rfl) (by unfold maxLen;omega) (by omega) (by simp;omega) ?_;intro v4 w4 hown4 hgrow4 hnil4 hat4;refine Hid.out ?_);refine Lib.hid ?_;obtain⟨g4,cap4,rfl,hg4,hglt4⟩:=hown4.form (by omega);have hfar:∀e:some (H0+4)=(Value.slice va o.length vcap).ownBlock,False:=fun e=>by have:=(HOWN1.out.lt _ e.symm).1;omega
  have hbk:=hgrow4.block (H0+4) (by rw[World.size_alloc];omega) hfar;have c4b:w4.cell? ⟨H0+4,0,none⟩=some (.slice va o.length vcap):=(World.cell?_of_block (a:=⟨H0+4,0,none⟩) hbk).trans ((World.cell?_of_block (a:=⟨H0+4,0,none⟩) (Below.heap_alloc W1 _ (H0+4) (by omega))).trans c4);have z4b:w4.frozen? ⟨H0+4,0,none⟩=false:=(World.frozen?_of_block (a:=⟨H0+4,0,none⟩) hbk).trans ((World.frozen?_of_block (a:=⟨H0+4,0,none⟩) (Below.heap_alloc W1 _ (H0+4) (by omega))).trans z4);have HST:=Lib.hid (HPUSH.out _ w4 ((Below.refl _ _).alloc (Nat.le_refl _) _) g4 cap4 hown4 hgrow4);have hb4:=HST.out.below (by omega);go_upto_region 4 with(fail);have d1:=(HST.out.blk HE.out.m (by omega) (by omega)).cell 0;have d3:=(HST.out.blk HE.out.v (by omega) (by omega)).cell 0;have d4:=((HB0.out.trans (hb4.mono (by omega))).cell (p:=⟨mb,0,none⟩) (by show mb<_;omega)).trans e0;have d5:=((HB0.out.trans (hb4.mono (by omega))).cell (p:=⟨g,x*4+2,none⟩) (by show g<_;omega)).trans e2;clear hown4 hgrow4 hnil4 hat4 hb4 hfar hbk c4b z4b;generalize w4.setCell ⟨H0+4,0,none⟩ (.slice (some ⟨g4,0,none⟩) (o.length+1) cap4)=w5 at*
  have hx0:(0:Int)<=(x:Int):=Int.natCast_nonneg _;have hx1:(x:Int)<(t.length:Int):=by omega
  go_wp2
  go_loopw [35] (fun ix wr=>∃(j:Nat) (o2:List Nat),j<=kids.length/\ ix=.int .i64 j/\ Hid (o2=(kids.take j).foldl (fun o k=>visitD t f o k.toNat) (o++[x]))/\ Hid (StV w0 H0 o2 wr)/\ Hid (o2.Nodup/\ ∀y∈o2,y<t.length)) (fun ix _=>kids.length-(intOf ix).toNat)
  case atStart=>exact⟨0,o++[x],by omega,rfl,rfl,HST,HNI⟩
  case round=>
   obtain⟨j,o2,hj,rfl,ho2,hS2,hNI2⟩:=hrel;clear HST HNI d1 d3 d4 d5;have c1':=(hS2.out.blk HE.out.v (by omega) (by omega)).cell 0;by_cases hlt:j<kids.length
   ·have hb2:=hS2.out.below (by omega)
    obtain⟨kb,ko,rfl,hkb,hkc⟩:=SlIn.one HKI.out.1 j hlt;have hkc2:=((HB0.out.trans (hb2.mono (by omega))).cell (p:=⟨kb,ko+j,none⟩) (by show kb<_;omega)).trans hkc;have hk:=HKD.out kids[j] (List.getElem_mem _)
    have hfold:(kids.take (j+1)).foldl (fun o k=>visitD t f o k.toNat) (o++[x])=visitD t f o2 kids[j].toNat:=by
     rw[List.take_succ_eq_append_getElem hlt,List.foldl_append, <-ho2.out];rfl
    generalize kids[j]=kv at*
    obtain⟨kn,rfl⟩:∃kn:Nat,kv=kn:=⟨kv.toNat,by omega⟩;rw[Int.toNat_natCast]at hk hfold;have HF:=Lib.hid hfold;have HI:=Lib.hid (HIH.out kn o2 wr hk.1 hk.2.1 hNI2.out.1 hNI2.out.2 hS2.out);have HNI3:=Lib.hid (visit_ok hT0 f o2 kn hk.1 hk.2.1 hNI2.out.1 hNI2.out.2).1;clear hkc hfold hb2 hS2 hNI2 ho2;go_wp2_with (go_at_call 157;refine HI.out.mono ?_;rintro e w6 ⟨rfl,hS6⟩;have HS6:=Lib.hid hS6;clear hS6);go_roundw
    case rel=>exact⟨j+1,visitD t f o2 kn,by omega,by go_num,by rw[HF.out];rfl,HS6,⟨HNI3.out.nodup,HNI3.out.inside⟩⟩
    case measure=>simp[intOf];omega
   ·have hje:j=kids.length:=by omega
    have HO:=ho2.out;rw[hje,List.take_length, <-HV.out]at HO;have HO2:=Lib.hid HO;clear HO ho2;go_wp2
    go_end0
    rw[<-HO2.out];exact⟨rfl,hS2.out⟩
end
section
open Go.RowKit
theorem cloneI_any (l:List Int)(v:Value)(w:World)(hlen:l.length<=2000000)(hl:IntsIn w w.heap.size l v):
  Calls Tryz.prog 158 #[v] w fun e w'=>∃v',e=.returned v'/\ w'.ownsRow w.heap.size 3 1 v' l.length (l.map iW)/\ Below w.heap.size w w':=by
 obtain⟨ao,cap,rfl,h1,h2,h4⟩:=hl;obtain⟨i0,hi0,hz0,hz1,hz2⟩:=info_parts intInfo3;have hq:=fun(w:World)=>Lib.run_eql_slice_nil (P:=Tryz.prog) w 26 3 ao l.length cap 0 0 Tryz.underlying26
 have HO:Hid ((w.alloc (.cells #[] 3)).ownsRow w.heap.size 3 1 (.slice (some ⟨w.heap.size,0,none⟩) 0 0) 0 []):=⟨rfl,.inr ⟨w.heap.size,0,#[],rfl,Nat.le_refl _,heap_alloc_new _ _,Nat.le_refl _,Nat.zero_le _,rfl,rfl⟩⟩;cases ao with
 | none=>
  have hn:l=[]:=by
   apply Classical.byContradiction
   intro e;obtain⟨b,off,ha,_⟩:=h4 e;cases ha
  have HN:=Lib.hid hn;clear hn h4;go_enter Tryz.func158,Tryz.ntmps158;go_wp2;go_ret;have hn:=HN.out;subst hn;exact⟨_,rfl,World.ownsRow_nil _ _ _ _,Below.refl _ _⟩
 | some a=>
  have hnews:∀j u,(l.map iW)[j]? =some u->(w.alloc (.cells #[] 3)).cell? (a.add j)=some u:=by
   intro j u hj;rw[List.getElem?_map]at hj
   have hjl:j<l.length:=by
    rcases Nat.lt_or_ge j l.length with h | h
    ·exact h
    ·rw[List.getElem?_eq_none h]at hj;cases hj
   rw[List.getElem?_eq_getElem hjl]at hj;obtain⟨b,off,ha,hb,hc⟩:=h4 (by intro e;simp[e]at hjl);cases ha
   have h5:w.cell? ⟨b,off+j*1,none⟩=some (.int .i64 l[j]):=hc j hjl;rw[Nat.mul_one]at h5;have hadd:(⟨b,off,none⟩:Addr).add j=⟨b,off+j,none⟩:=by unfold Addr.add;split<;>simp_all
   rw[hadd,World.cell?_of_block (w:=w) (a:=⟨b,off+j,none⟩) (Below.heap_alloc w _ b hb),h5];exact hj
  have HN:=Lib.hid hnews;clear h4 hnews;go_enter Tryz.func158,Tryz.ntmps158;go_wp2_with (at_builtin;refine wpList_append_own_at _ rfl _ _ 26 rfl w.heap.size 3 i0 _ 1 8 Tryz.underlying26 hi0 hz0 hz1 hz2 rfl (by decide) _ _ _ rfl HO.out a l.length cap (l.map iW) rfl (by simp) HN.out (by intro u hu;obtain⟨y,_,rfl⟩:=List.mem_map.1 hu;rfl) (by unfold maxLen;omega) (by omega) (by simp) ?_;intro v' w1 hown' hgrow hnil hat;refine Hid.out ?_);refine Lib.hid ?_;have hb0:Below w.heap.size w w1:=((Below.refl w.heap.size w).alloc (Nat.le_refl _) (.cells #[] 3)).grown hgrow (by simp) (fun k e=>by cases e;exact Nat.le_refl _);rw[Nat.zero_add,List.nil_append]at hown';have HW:=Lib.hid hown';clear hown' hgrow hnil hat;go_wp2;go_ret;exact⟨_,rfl,HW.out,hb0⟩
end
section
open Go.RowKit
def DnR :CellRel Dn:=fun w B x b o=>∃vc vk,w.cell? ⟨b,o,none⟩=some (.int .i64 x.fact)/\ w.cell? ⟨b,o+1,none⟩=some vc/\ w.cell? ⟨b,o+2,none⟩=some vk/\ w.cell? ⟨b,o+3,none⟩=some (.bool x.leaf)/\ IntsIn w B x.cuts vc/\ IntsIn w B x.kids vk
theorem DnR.kept :DnR.Kept:=by
 rintro w w' B x b o hb hlt ⟨vc,vk,h0,h1,h2,h3,h4,h5⟩;refine⟨vc,vk,?_,?_,?_,?_,h4.below hb,h5.below hb⟩<;>(rw[hb.cell (by exact hlt)];assumption)
theorem DnR.mono :DnR.Mono:=by
 rintro w B B' x b o hb ⟨vc,vk,h0,h1,h2,h3,h4,h5⟩;exact⟨vc,vk,h0,h1,h2,h3,SlIn.mono (OneR.mono _) hb h4,SlIn.mono (OneR.mono _) hb h5⟩
def DgIn (w:World)(B:Nat)(g:List Dn)(v:Value):Prop:=∃u,v=.agg #[u]/\ SlIn DnR 4 w B g u
theorem DgIn.below {w w':World}{B:Nat}(hb:Below B w w'){g:List Dn}{v:Value}(h:DgIn w B g v):DgIn w' B g v:=by
 obtain⟨u,rfl,h1⟩:=h;exact⟨u,rfl,h1.below DnR.kept hb⟩
theorem DgIn.mono {w:World}{B B':Nat}(hb:B<=B'){g:List Dn}{v:Value}(h:DgIn w B g v):DgIn w B' g v:=by
 obtain⟨u,rfl,h1⟩:=h;exact⟨u,rfl,h1.mono DnR.mono hb⟩
theorem run_store_func2 {P:Program}{w:World}{a:Addr}{m:Mode}(f:Fn)(x y:Array Value):(store a (.func f x y) m).run P w=stored P w a (.func f x y) m:=Go.run_store P w a _ m rfl
theorem env_new (W:World)(mb:Nat):∃w0,w0=(((((W.alloc (.cells #[.pointer (some ⟨mb,0,none⟩)] 127)).alloc (.cells #[.slice none 0 0] 75)).alloc (.map #[] 0)).alloc (.cells #[.map (some (W.heap.size+1+1))] 189)).alloc (.cells #[.slice none 0 0] 26)).alloc (.cells #[.func (.func 157) #[] #[.pointer (some ⟨W.heap.size+1+1+1,0,none⟩),.pointer (some ⟨W.heap.size+1+1+1+1,0,none⟩),.pointer (some ⟨W.heap.size,0,none⟩),.pointer (some ⟨W.heap.size+1+1+1+1+1,0,none⟩)]] 190)/\
  EnvV w0 W.heap.size mb/\ StV w0 W.heap.size [] w0/\ Below W.heap.size W w0/\ w0.heap.size=W.heap.size+6/\ Blk w0 (W.heap.size+1) 75 #[.slice none 0 0]:=by
 refine⟨_,rfl,?_,?_,?_,by simp,?_⟩
 ·exact⟨((((((Blk.new W _ _).alloc _).alloc _).alloc _).alloc _).alloc _),(by
   have q:=((Blk.new (((W.alloc (.cells #[.pointer (some ⟨mb,0,none⟩)] 127)).alloc (.cells #[.slice none 0 0] 75)).alloc (.map #[] 0)) 189 #[.map (some (W.heap.size+1+1))]).alloc (.cells #[.slice none 0 0] 26)).alloc (.cells #[.func (.func 157) #[] #[.pointer (some ⟨W.heap.size+1+1+1,0,none⟩),.pointer (some ⟨W.heap.size+1+1+1+1,0,none⟩),.pointer (some ⟨W.heap.size,0,none⟩),.pointer (some ⟨W.heap.size+1+1+1+1+1,0,none⟩)]] 190)
   simpa only[World.size_alloc]using q),(by
   have q:=Blk.new (((((W.alloc (.cells #[.pointer (some ⟨mb,0,none⟩)] 127)).alloc (.cells #[.slice none 0 0] 75)).alloc (.map #[] 0)).alloc (.cells #[.map (some (W.heap.size+1+1))] 189)).alloc (.cells #[.slice none 0 0] 26)) 190 #[.func (.func 157) #[] #[.pointer (some ⟨W.heap.size+1+1+1,0,none⟩),.pointer (some ⟨W.heap.size+1+1+1+1,0,none⟩),.pointer (some ⟨W.heap.size,0,none⟩),.pointer (some ⟨W.heap.size+1+1+1+1+1,0,none⟩)]]
   simpa only[World.size_alloc]using q),by simp⟩
 ·refine⟨rfl,rfl,rfl,Nat.le_refl _,fun _ _ _ _=>rfl,⟨#[],0,?_,rfl⟩,.slice none 0 0,?_,World.ownsRow_nil _ _ _ _⟩
  ·have q:=World.alloc_heap_new ((W.alloc (.cells #[.pointer (some ⟨mb,0,none⟩)] 127)).alloc (.cells #[.slice none 0 0] 75)) (.map #[] 0)
   simp only[World.size_alloc]at q;rw[Below.heap_alloc _ _ _ (by simp),Below.heap_alloc _ _ _ (by simp),Below.heap_alloc _ _ _ (by simp)];exact q
  ·have q:=(Blk.new ((((W.alloc (.cells #[.pointer (some ⟨mb,0,none⟩)] 127)).alloc (.cells #[.slice none 0 0] 75)).alloc (.map #[] 0)).alloc (.cells #[.map (some (W.heap.size+1+1))] 189)) 26 #[.slice none 0 0]).alloc (.cells #[.func (.func 157) #[] #[.pointer (some ⟨W.heap.size+1+1+1,0,none⟩),.pointer (some ⟨W.heap.size+1+1+1+1,0,none⟩),.pointer (some ⟨W.heap.size,0,none⟩),.pointer (some ⟨W.heap.size+1+1+1+1+1,0,none⟩)]] 190)
   simpa only[World.size_alloc]using q
 ·exact((((((Below.refl _ _).alloc (Nat.le_refl _) _).alloc (by simp) _).alloc (by simp;omega) _).alloc (by simp;omega) _).alloc (by simp;omega) _).alloc (by simp;omega) _
 ·have q:=((((Blk.new (W.alloc (.cells #[.pointer (some ⟨mb,0,none⟩)] 127)) 75 #[.slice none 0 0]).alloc (.map #[] 0)).alloc (.cells #[.map (some (W.heap.size+1+1))] 189)).alloc (.cells #[.slice none 0 0] 26)).alloc (.cells #[.func (.func 157) #[] #[.pointer (some ⟨W.heap.size+1+1+1,0,none⟩),.pointer (some ⟨W.heap.size+1+1+1+1,0,none⟩),.pointer (some ⟨W.heap.size,0,none⟩),.pointer (some ⟨W.heap.size+1+1+1+1+1,0,none⟩)]] 190)
  simpa only[World.size_alloc]using q
theorem visitD_any {nf:Nat}{lo hi:Nat->Int}{t:List Dn}(w00 w0:World)(H H0 mb:Nat)(S:List Nat)(hE:EnvV w0 H0 mb)(h00:w00.heap.size=H0)(hm:MkIs w00 H mb S t)(hb0:Below H0 w00 w0)(hmb:w0.heap.size=H0+6)
  (hT:TableD nf lo hi t) (hl:t.length<=900000):∀f,VisD w0 H0 nf t f
 | 0=>fun x o W hx hf=>by omega
 | f+1=>visit_step w00 w0 H H0 mb S hE h00 hm hb0 hmb hT hl f (visitD_any w00 w0 H H0 mb S hE h00 hm hb0 hmb hT hl f)
structure FrS (w1 : World) (B R : Nat) (d : List Dn) (n j : Nat) (W : World) : Prop where
 stp:MkS R [] w1 W
 row:∃xs:List Value,W.ownsRow R 106 4 (.slice (some ⟨R,0,none⟩) n n) n xs/\ ∀i,i<j->∃vc vk,xs[i*4]? =some (.int .i64 (d.getD i default).fact)/\ xs[i*4+1]? =some vc/\ xs[i*4+2]? =some vk/\ xs[i*4+3]? =some (.bool (d.getD i default).leaf)/\
  IntsIn w1 B (d.getD i default).cuts vc/\ W.ownsRow w1.heap.size 3 1 vk (d.getD i default).kids.length ((d.getD i default).kids.map iW)
theorem own_base {W:World}{b b' e k n:Nat}{v:Value}{xs:List Value}(h:W.ownsRow b e k v n xs)(hb:b'<=b):W.ownsRow b' e k v n xs:=
 ⟨h.1,h.2.imp id fun⟨g,cap,cur,h1,h2,h3⟩=>⟨g,cap,cur,h1,Nat.le_trans hb h2,h3⟩⟩
theorem FrS.put {w1 W wi:World}{B R:Nat}{d:List Dn}{n j:Nat}(h:FrS w1 B R d n j W)(hb:Below W.heap.size W wi)(hj:j<n)(hR:R<w1.heap.size){x:Dn}(hx:d.getD j default=x){vc vk:Value}
  (hc:IntsIn w1 B x.cuts vc) (hk:wi.ownsRow w1.heap.size 3 1 vk x.kids.length (x.kids.map iW)):
  FrS w1 B R d n (j+1) ((((wi.setCell ⟨R,j*4,none⟩ (.int .i64 x.fact)).setCell ⟨R,j*4+1,none⟩ vc).setCell ⟨R,j*4+2,none⟩ vk).setCell ⟨R,j*4+3,none⟩ (.bool x.leaf)):=by
 obtain⟨xs,h1,h2⟩:=h.row;have r0:=own_under h1 hb;have r1:=r0.stored (j*4) (.int .i64 x.fact);have r2:=r1.1.stored (j*4+1) vc;have r3:=r2.1.stored (j*4+2) vk;have r4:=r3.1.stored (j*4+3) (.bool x.leaf);have hl:xs.length=n*4:=h1.1
 have st:∀ {w w':World} {l:List Value},w.ownsRow R 106 4 (.slice (some ⟨R,0,none⟩) n n) n l->w.grownBy w' (some R)->MkS R [] w w':=fun hw hg=>MkS.of_grown hg fun b e=>by
  cases e;exact⟨Nat.le_refl _,.inr fun o ho=>(row_soft hw R rfl).2 o ho⟩
 have keep:∀(v:Value) (m:Nat) (ys:List Value),wi.ownsRow w1.heap.size 3 1 v m ys->((((wi.setCell ⟨R,j*4,none⟩ (.int .i64 x.fact)).setCell ⟨R,j*4+1,none⟩ vc).setCell ⟨R,j*4+2,none⟩ vk).setCell ⟨R,j*4+3,none⟩ (.bool x.leaf)).ownsRow w1.heap.size 3 1 v m ys:=fun v m ys hv=>by
  have ne:∀g,v.ownBlock=some g->g≠R:=fun g hg=>by have:=(hv.lt g hg).1;omega
  exact own_struck (own_struck (own_struck (own_struck hv _ _ ne) _ _ ne) _ _ ne) _ _ ne
 refine⟨((((h.stp.trans (MkS.of_below hb (Nat.le_refl _))).trans (st r0 r1.2)).trans (st r1.1 r2.2)).trans (st r2.1 r3.2)).trans (st r3.1 r4.2),_,r4.1,fun i hi=>?_⟩;by_cases hij:i<j
 ·obtain⟨uc,uk,e0,e1,e2,e3,e4,e5⟩:=h2 i hij
  refine⟨uc,uk,?_,?_,?_,?_,e4,keep _ _ _ (own_under e5 hb)⟩
  ·rw[List.getElem?_set_ne (by omega),List.getElem?_set_ne (by omega),List.getElem?_set_ne (by omega),List.getElem?_set_ne (by omega)];exact e0
  ·rw[List.getElem?_set_ne (by omega),List.getElem?_set_ne (by omega),List.getElem?_set_ne (by omega),List.getElem?_set_ne (by omega)];exact e1
  ·rw[List.getElem?_set_ne (by omega),List.getElem?_set_ne (by omega),List.getElem?_set_ne (by omega),List.getElem?_set_ne (by omega)];exact e2
  ·rw[List.getElem?_set_ne (by omega),List.getElem?_set_ne (by omega),List.getElem?_set_ne (by omega),List.getElem?_set_ne (by omega)];exact e3
 ·obtain rfl:i=j:=by omega
  rw[hx];refine⟨vc,vk,?_,?_,?_,?_,hc,keep _ _ _ hk⟩
  ·rw[List.getElem?_set_ne (by omega),List.getElem?_set_ne (by omega),List.getElem?_set_ne (by omega),List.getElem?_set_self (by omega)]
  ·rw[List.getElem?_set_ne (by omega),List.getElem?_set_ne (by omega),List.getElem?_set_self (by simp;omega)]
  ·rw[List.getElem?_set_ne (by omega),List.getElem?_set_self (by simp;omega)]
  ·rw[List.getElem?_set_self (by simp;omega)]
theorem own_ints {W:World}{b:Nat}{v:Value}{l:List Int}(h:W.ownsRow b 3 1 v l.length (l.map iW)):IntsIn W W.heap.size l v:=by
 obtain⟨a,c,rfl⟩:=own_len h;rcases h.2 with⟨e,hn⟩ | ⟨g,cap,cur,e,h1,h2,h3,h4,h5,h6⟩
 ·obtain rfl:=List.length_eq_zero_iff.1 hn
  cases e
  exact⟨none,0,rfl,Nat.le_refl _,Nat.zero_le _,fun h=>absurd rfl h⟩
 ·cases e
  refine⟨_,_,rfl,h3,h4,fun hne=>⟨g,0,rfl,heap_lt h2,fun i hi=>?_⟩⟩
  show W.cell? ⟨g,0+i*1,none⟩=_
  rw[Nat.zero_add,Nat.mul_one,h.cellAt i (by omega),List.getElem?_map,List.getElem?_eq_getElem hi]
  rfl
theorem FrS.done {w1 W:World}{B R:Nat}{d:List Dn}{n:Nat}(h:FrS w1 B R d n n W)(hn:d.length=n)(hm:n<=maxLen)(hR:R<w1.heap.size)(p:Nat)(hp:p<R)(hBp:B<=p)(u:Value):
  DgIn (W.setCell ⟨p,0,none⟩ u) (W.setCell ⟨p,0,none⟩ u).heap.size d (.agg #[.slice (some ⟨R,0,none⟩) n n]):=by
 obtain⟨xs,h1,h2⟩:=h.row;have hs:=h.stp.size;have hlt:=(h1.lt R rfl).2;have r0:=own_struck h1 ⟨p,0,none⟩ u (fun g hg=>by cases hg;show R≠p;omega);refine⟨_,rfl,some ⟨R,0,none⟩,n,by rw[hn],by omega,hm,fun _=>⟨R,0,rfl,by simpa using hlt,fun i hi=>?_⟩⟩;obtain⟨vc,vk,e0,e1,e2,e3,e4,e5⟩:=h2 i (by omega);have hgd:=getD_dg d i default hi;simp only[hgd]at e0 e1 e2 e3 e4 e5;have hb:Below B w1 (W.setCell ⟨p,0,none⟩ u):=((h.stp.below (by omega)).mono (by omega)).setCell hBp u;refine⟨vc,vk,?_,?_,?_,?_,SlIn.mono (OneR.mono _) (by simp;omega) (SlIn.below (OneR.kept _) hb e4),own_ints (own_struck e5 _ _ fun g hg=>by have:=(e5.lt g hg).1;show g≠p;omega)⟩
 ·rw[Nat.zero_add,r0.cellAt _ (by omega)];exact e0
 ·rw[Nat.zero_add,r0.cellAt _ (by omega)];exact e1
 ·rw[Nat.zero_add,r0.cellAt _ (by omega)];exact e2
 ·rw[Nat.zero_add,r0.cellAt _ (by omega)];exact e3
attribute [local go_sem] run_store_func2
theorem from_few {nf:Nat}{lo hi:Nat->Int}(t:List Dn)(H mb:Nat)(S:List Nat)(x:Nat)(W:World)(hm:MkIs W H mb S t)(hT:TableD nf lo hi t)(hx:x<t.length)(hl:t.length<=900000)(ho:(visitD t (nf+1) [] x).length<=20000)(hkb:∀n∈t,n.kids.length<=2000000):
  Calls Tryz.prog 111 #[.pointer (some ⟨mb,0,none⟩),.int .i64 (x:Int)] W fun e W'=>∃u,e=.returned (.tuple #[u,.int .i64 0])/\ DgIn W' W'.heap.size (fromD t (visitD t (nf+1) [] x)) u/\ Below W.heap.size W W':=by
 have hmm:=@run_makeMap Tryz.prog;obtain⟨w0,hw0,hE,hst0,hb0,hs0,hD⟩:=env_new W mb;have HI:=Lib.hid (visitD_any W w0 H W.heap.size mb S hE rfl hm hb0 hs0 hT (by omega) (nf+1) x [] w0 hx (by omega) List.nodup_nil (by simp) hst0);have hvo:=visit_ok hT (nf+1) [] x hx (by omega) List.nodup_nil (by simp);have HV:=Lib.hid hvo
 have hol:(visitD t (nf+1) [] x).length<=t.length:=by
  have:=List.Nodup.length_le_of_subset hvo.1.nodup (l₂:=List.range t.length) (fun y hy=>List.mem_range.2 (hvo.1.inside y hy))
  rwa[List.length_range]at this
 have HKBB:=Lib.hid hkb;have HT:=Lib.hid hT;have hd1:=hD.cell 0;have hv1:=hE.v.cell 0;have HE:=Lib.hid hE;have HD:=Lib.hid hD;have HB0:=Lib.hid hb0;have HW0:=Lib.hid hw0;have HM:=Lib.hid hm;generalize visitD t (nf+1) [] x=o at*
 clear hm hT hkb hE hst0 hb0 hD hvo;go_enter Tryz.func111,Tryz.ntmps111;go_upto_region 5 with(fail);rw[<-HW0.out];clear hw0 HW0;have hs0':W.heap.size+6<=w0.heap.size:=by omega
 clear hs0;go_upto_region 6 with(go_at_call 157;refine HI.out.mono ?_;rintro e w1 ⟨rfl,hS1⟩;have HS1:=Lib.hid hS1;clear hS1);have hs1:=HS1.out.size;obtain⟨vo,hvb,hown⟩:=HS1.out.ord;have hopos:0<o.length:=List.length_pos_of_mem HV.out.2;obtain⟨ob,ocap,rfl,hob,hob1⟩:=hown.form hopos;have c1:=hvb.cell 0;have HB1:=Lib.hid (HB0.out.trans ((HS1.out.below (by omega)).mono (by omega)));have HD1:=Lib.hid (HS1.out.blk HD.out (by omega) (by omega));have hzd1:=(HS1.out.blk HD.out (by omega) (by omega)).frozen 0;have hd1':=(HS1.out.blk HD.out (by omega) (by omega)).cell 0;have hm1':=(HS1.out.blk HE.out.m (by omega) (by omega)).cell 0;have hp1':=(HS1.out.blk HE.out.p (by omega) (by omega)).cell 0;obtain⟨i0,hi0,hz0,hz1,hz2⟩:=info_parts nodeInfo;obtain⟨w2,hrun,hrow,hgr⟩:=run_make_full (P:=Tryz.prog) w1 w1.heap.size 73 106 i0 _ 4 Tryz.underlying73 hi0 hz0 hz1 .i64 .i64 o.length (by rw[hz2];omega) (by unfold maxLen;omega) (Nat.le_refl _);have hb2:Below w1.heap.size w1 w2:=⟨hgr.os,hgr.tape,hgr.output,hgr.size,fun b hb=>hgr.block b hb (by simp)⟩;have hr2:w1.heap.size<w2.heap.size:=(hrow.lt _ rfl).2;have c2:=(hb2.cell (p:=⟨W.heap.size+4,0,none⟩) (by show W.heap.size+4<w1.heap.size;omega)).trans c1;have d2:=(hb2.cell (p:=⟨W.heap.size+1,0,none⟩) (by show W.heap.size+1<w1.heap.size;omega)).trans hd1';have m2:=(hb2.cell (p:=⟨W.heap.size,0,none⟩) (by show W.heap.size<w1.heap.size;omega)).trans hm1';have p2:=(hb2.cell (p:=⟨W.heap.size+3,0,none⟩) (by show W.heap.size+3<w1.heap.size;omega)).trans hp1';have HMAP:=Lib.hid HS1.out.map;have HB2:=Lib.hid hb2;have HROW:=Lib.hid hrow;have HOWN:=Lib.hid hown;obtain⟨w3,hw3⟩:∃w3,w3=w2.alloc (.cells #[.slice (some ⟨w1.heap.size,0,none⟩) o.length o.length] 75):=⟨_,rfl⟩;have hsz3:w3.heap.size=w2.heap.size+1:=by rw[hw3];simp
 have HF0:Hid (FrS w3 W.heap.size w1.heap.size (fromD t o) o.length 0 w3):=⟨MkS.refl _ _ _,_,(by rw[hw3];exact hrow.alloc _),fun i hi=>by omega⟩;have HB3:Hid (Below w1.heap.size w1 w3):=by rw[hw3];exact hb2.alloc (by omega) _
 have HD3:Hid (Blk w3 w2.heap.size 75 #[.slice (some ⟨w1.heap.size,0,none⟩) o.length o.length]):=by rw[hw3];exact Blk.new _ _ _
 have HW3:=Lib.hid hw3;have hsz3':w1.heap.size<w3.heap.size:=by omega
 clear hvb hown hi0 hz0 hz1 hz2 HS1 hd1 hv1 HE HD HB0 hgr hb2 hrow hw3 hsz3;go_upto_region 9 with(fail);rw[<-HW3.out];have c3:=(HB3.out.cell (p:=⟨W.heap.size+4,0,none⟩) (by show W.heap.size+4<w1.heap.size;omega)).trans c1;clear c2 d2 m2 p2 HW3 HB2 HROW hrun hr2;go_wp2
 go_loopw [29] (fun ix wr=>∃(j:Nat),j<=o.length/\ ix=.int .i64 j/\ Hid (FrS w3 W.heap.size w1.heap.size (fromD t o) o.length j wr)) (fun ix _=>o.length-(intOf ix).toNat)
 case atStart=>exact⟨0,by omega,rfl,HF0⟩
 case round=>
  rename World=>wR
  obtain⟨j,hj,rfl,hF⟩:=hrel;have hwr:=hF.out.stp.size;have hbr:=HB3.out.trans (hF.out.stp.below (by omega));have hdd:wR.cell? ⟨w2.heap.size,0,none⟩=some (.slice (some ⟨w1.heap.size,0,none⟩) o.length o.length):=(World.cell?_of_block (a:=⟨w2.heap.size,0,none⟩) ((hF.out.stp.keep _ _ HD3.out (.inr ⟨rfl,by simp⟩)).trans HD3.out.symm)).trans (HD3.out.cell 0);have hm2:=(hbr.cell (p:=⟨W.heap.size,0,none⟩) (by show W.heap.size<w1.heap.size;omega)).trans hm1';have hp2:=(hbr.cell (p:=⟨W.heap.size+3,0,none⟩) (by show W.heap.size+3<w1.heap.size;omega)).trans hp1';have hp1:=hp1';have hd1b:=hd1';have hz1b:=hzd1;clear hm1' hp1' c1 hd1' c3 hzd1;by_cases hlt:j<o.length
  ·have hoj:=(hbr.cell (p:=⟨ob,j,none⟩) hob1).trans (HOWN.out.cellAt j (by omega))
   rw[List.getElem?_map,List.getElem?_eq_getElem hlt]at hoj;have hot:=HV.out.1.inside o[j] (List.getElem_mem _);have hclo:=fun k (hk:k∈(t.getD o[j] default).kids)=>And.intro (((HT.out o[j] hot).inner (List.ne_nil_of_mem hk)).2.2.2.2.2.2.2 k hk).1 (HV.out.1.closed o[j] (List.getElem_mem _) (by simp) k hk)
   have hget:=fromD_get (t:=t) hlt;obtain⟨g,gcap,vc,vk,mo,q1,_,_,hg1,hg2,hg3,_,q2,q3,q4,q5,qc,qk⟩:=HM.out.node o[j] hot;generalize o[j]=oj at*
   have hbW:=HB1.out.trans (hbr.mono (by omega));have hmt:=(hbW.cell (p:=⟨mb,0,none⟩) hg2).trans q1;have hn0:=(hbW.cell (p:=⟨g,oj*4,none⟩) hg1).trans q2;have hn1:=(hbW.cell (p:=⟨g,oj*4+1,none⟩) hg1).trans q3;have hn2:=(hbW.cell (p:=⟨g,oj*4+2,none⟩) hg1).trans q4;have hn3:=(hbW.cell (p:=⟨g,oj*4+3,none⟩) hg1).trans q5
   have hkl0:(t.getD oj default).kids.length<=2000000:=by
    rw[getD_dg _ _ _ hot];exact HKBB.out _ (List.getElem_mem _)
   generalize t.getD oj default=nd at*
   have HQC:=Lib.hid (SlIn.below (OneR.kept _) (HB1.out.trans (HB3.out.mono (by omega))) qc.1);have HQK:=Lib.hid (SlIn.below (OneR.kept _) hbW qk.1);have HCLO:=Lib.hid hclo;have HKL:=Lib.hid (show nd.kids.length<=2000000 from hkl0);have HGET:=Lib.hid hget;have hmb2:mb<wR.heap.size:=by omega
   have hg4:g<wR.heap.size:=by omega
   have hob4:ob<wR.heap.size:=by omega
   obtain⟨ca,cc,rfl,_,_,_⟩:=SlIn.shape qc.1;obtain⟨ka,kc,rfl,_,_,_⟩:=SlIn.shape qk.1;clear q1 q2 q3 q4 q5 qc qk hbW hbr hclo hget;simp only[Option.map_some]at hoj;have hkl:nd.kids.length<=2000000:=by have:=HKL.out;omega
   go_upto_region 13 with(fail);have HCL:=Lib.hid (cloneI_any nd.kids _ (wR.alloc (.cells #[.int .i64 nd.fact,.slice ca nd.cuts.length cc,.slice ka nd.kids.length kc,.bool nd.leaf] 106)) hkl ((HQK.out.below (OneR.kept _) (((Below.refl _ _).alloc (Nat.le_refl _) _).mono (by omega))).mono (OneR.mono _) (by rw[World.size_alloc];omega)));go_upto_region 14 with(go_at_call 158;refine HCL.out.mono ?_;rintro e w4 ⟨v4,rfl,h4,hb4⟩;have H4:=Lib.hid h4;have HB4:=Lib.hid hb4;obtain⟨va,vcap,hv4⟩:=own_len h4;subst hv4;have n4:=((Blk.new wR 106 #[.int .i64 nd.fact,.slice ca nd.cuts.length cc,.slice ka nd.kids.length kc,.bool nd.leaf]).below hb4);have n42:=n4.cell 2;have z42:=n4.frozen 2;have N4:=Lib.hid n4;clear h4 hb4 n4);have N5:=Lib.hid (N4.out.set 2 (.slice va nd.kids.length vcap));have n52:=N5.out.cell 2;have H4b:w4.ownsRow (wR.heap.size+1) 3 1 (.slice va nd.kids.length vcap) nd.kids.length (nd.kids.map iW):=by have q:=H4.out;rwa[World.size_alloc]at q
   have H5:=Lib.hid (own_struck H4b ⟨wR.heap.size,2,none⟩ (.slice va nd.kids.length vcap) (fun g hg=>by have:=(H4b.lt g hg).1;show g≠wR.heap.size;omega));have hs4:wR.heap.size+1<=w4.heap.size:=by have:=HB4.out.size;rwa[World.size_alloc]at this
   have HB6:Hid (Below wR.heap.size wR (w4.setCell ⟨wR.heap.size,2,none⟩ (.slice va nd.kids.length vcap))):=(((Below.refl _ _).alloc (Nat.le_refl _) _).trans (HB4.out.mono (by rw[World.size_alloc];omega))).setCell (Nat.le_refl _) _;have HB5:Hid (Below w1.heap.size w1 (w4.setCell ⟨wR.heap.size,2,none⟩ (.slice va nd.kids.length vcap))):=((HB3.out.trans (hF.out.stp.below (by omega))).trans ((((Below.refl _ _).alloc (by omega) _).trans (HB4.out.mono (by simp;omega))).setCell (by show w1.heap.size<=wR.heap.size;omega) _));have hs5:(w4.setCell ⟨wR.heap.size,2,none⟩ (.slice va nd.kids.length vcap)).heap.size=w4.heap.size:=by simp
   have HKS5:Hid (MkS w1.heap.size [] wR (w4.setCell ⟨wR.heap.size,2,none⟩ (.slice va nd.kids.length vcap))):=(((MkS.refl _ _ _).alloc _).trans (MkS.of_below HB4.out (by simp))).trans (MkS.of_grown (row:=some wR.heap.size) (grown_set _ _ _ _) (fun b e=>by cases e;exact⟨by omega,.inr fun o ho=>by rw[show w4.heap[wR.heap.size]? =_ from N4.out]at ho;cases ho;rfl⟩));clear H4b;generalize w4.setCell ⟨wR.heap.size,2,none⟩ (.slice va nd.kids.length vcap)=w5 at*
   clear n42 z42 hn0 hn1 hn2 hn3 hmt hoj hm2 hp2;go_wp2
   go_loopw [49] (fun ix wi=>∃(i:Nat),i<=nd.kids.length/\ ix=.int .i64 i/\ Hid (w5.grownBy wi (Value.slice va nd.kids.length vcap).ownBlock/\ wi.ownsRow (wR.heap.size+1) 3 1 (.slice va nd.kids.length vcap) nd.kids.length (((nd.kids.take i).map fun k=>iW ((o.idxOf k.toNat:Nat):Int))++(nd.kids.drop i).map iW))) (fun ix _=>nd.kids.length-(intOf ix).toNat)
   case atStart=>exact⟨0,by omega,rfl,⟨World.grownBy.refl _ _,by simpa using H5.out⟩⟩
   case round=>
    rename World=>wi
    obtain⟨i,hi,rfl,hG⟩:=hrel;have hsi:w5.heap.size<=wi.heap.size:=hG.out.1.size;have hbi:Below w1.heap.size w1 wi:=HB5.out.grown hG.out.1 (by omega) (fun k hk=>by have:=(H5.out.lt k hk).1;omega);have hni:wi.cell? ⟨wR.heap.size,2,none⟩=some (.slice va nd.kids.length vcap):=(hG.out.1.cell n52 (fun e=>by have:wR.heap.size+1<=wR.heap.size:=(H5.out.lt _ e.symm).1;omega));by_cases hil:i<nd.kids.length
    ·have hpi:=(hbi.cell (p:=⟨W.heap.size+3,0,none⟩) (by show W.heap.size+3<w1.heap.size;omega)).trans hp1
     obtain⟨vb,vc2,hva,hvb,hvb1⟩:=hG.out.2.form (by omega);obtain⟨rfl,rfl⟩:va=some ⟨vb,0,none⟩/\ vcap=vc2:=by simpa using hva
     have hki:=hG.out.2.cellAt i (by omega);have hfz:=hG.out.2.frozenAt i;have hdrop:nd.kids.drop i=nd.kids[i]::nd.kids.drop (i+1):=List.drop_eq_getElem_cons hil;have htl:(nd.kids.take i).length=i:=by rw[List.length_take];omega
     rw[List.getElem?_append_right (by rw[List.length_map];omega),List.length_map,htl,Nat.sub_self,hdrop,List.map_cons,List.getElem?_cons_zero]at hki;have hk:=HCLO.out nd.kids[i] (List.getElem_mem _);have hst:=(World.ownsRow.drew hG.out.2).stored i (iW ((o.idxOf nd.kids[i].toNat:Nat):Int))
     have HNX:Hid (w5.grownBy (wi.drew.setCell ⟨vb,i,none⟩ (iW ((o.idxOf nd.kids[i].toNat:Nat):Int))) (Value.slice (some ⟨vb,0,none⟩) nd.kids.length vcap).ownBlock/\ (wi.drew.setCell ⟨vb,i,none⟩ (iW ((o.idxOf nd.kids[i].toNat:Nat):Int))).ownsRow (wR.heap.size+1) 3 1 (.slice (some ⟨vb,0,none⟩) nd.kids.length vcap) nd.kids.length (((nd.kids.take (i+1)).map fun k=>iW ((o.idxOf k.toNat:Nat):Int))++(nd.kids.drop (i+1)).map iW)):=by
      refine⟨World.grownBy.trans (b:=wi.drew) ⟨hG.out.1.os,hG.out.1.tape,hG.out.1.output,hG.out.1.size,hG.out.1.block⟩ hst.2,?_⟩;have:=hst.1;rw[hdrop,List.map_cons,List.set_append_right _ _ (by rw[List.length_map];omega),List.length_map,htl,Nat.sub_self,List.set_cons_zero]at this;rw[List.take_succ_eq_append_getElem hil,List.map_append,List.append_assoc];exact this
     have hlk:=run_look MapII.key Tryz.underlying189 zero_int_3 (HMAP.out.below hbi.drew (by omega)) (nd.kids[i]:Int);generalize nd.kids[i]=kv at*
     obtain⟨kn,rfl⟩:∃kn:Nat,kv=kn:=⟨kv.toNat,by omega⟩;rw[Int.toNat_natCast]at HNX hk;rw[placeL_look,if_pos hk.2]at hlk;clear hG hva hst hdrop htl hk;go_upto_region 17 with(fail);refine wp_region_T 11 (fun w':World=>w'=wi.drew) (by kernel_rfl) rfl (fun hHeld=>?_);refine xp 0 ?_;refine xp 2 ?_;refine xk 3 ?v3 ?y3 ?_
     case y3=>(intro w9 hSw;rw[show w9=wi.drew from hSw];go_simp;try with_reducible rfl)
     refine xp 4 ?_;refine xp 6 ?_;refine xk 1 ?v1 ?y1 ?_
     case y1=>(intro w9 hSw;rw[show w9=wi.drew from hSw];go_simp;try with_reducible rfl)
     refine xk 5 ?v5 ?y5 ?_
     case y5=>(intro w9 hSw;rw[show w9=wi.drew from hSw];go_simp;try with_reducible rfl)
     refine xp 7 ?_;refine xk 8 ?v8 ?y8 ?_
     case y8=>(intro w9 hSw;rw[show w9=wi.drew from hSw];go_simp;try with_reducible rfl)
     refine xk 9 ?v9 ?y9 ?_
     case y9=>(intro w9 hSw;rw[show w9=wi.drew from hSw];go_simp;try with_reducible rfl)
     refine xp 10 ?_;refine xl 11 (fun K hK=>?_)
     (have hq:_=wi.drew:=hHeld;go_simp)
     refine hK.out _ _ ?_;clear hK K
     try simp only[Act.put,sA,sB,sC]
     refine wpAnyT_done (by kernel_rfl) ?_ _
     (go_wp2;go_roundw;(case rel=>exact⟨i+1,by omega,by go_num,HNX⟩);(case measure=>simp[intOf];omega))
    ·obtain rfl:i=nd.kids.length:=by omega
     obtain⟨xs,hrow,_⟩:=hF.out.row;have hbRi:Below wR.heap.size wR wi:=HB6.out.grown hG.out.1 (by omega) (fun k hk=>by have:=(H5.out.lt k hk).1;omega);have HRI:=Lib.hid (own_under hrow hbRi);have hxl:xs.length=o.length*4:=hrow.1;have s0:=HRI.out.cellAt (j*4) (by omega);have s1:=HRI.out.cellAt (j*4+1) (by omega);have s2:=HRI.out.cellAt (j*4+2) (by omega);have s3:=HRI.out.cellAt (j*4+3) (by omega);rw[List.getElem?_eq_getElem (by omega)]at s0 s1 s2 s3;have f0:=HRI.out.frozenAt (j*4);have f1:=HRI.out.frozenAt (j*4+1);have f2:=HRI.out.frozenAt (j*4+2);have f3:=HRI.out.frozenAt (j*4+3);have hNb:some wR.heap.size≠(Value.slice va nd.kids.length vcap).ownBlock:=fun e=>by have:wR.heap.size+1<=wR.heap.size:=(H5.out.lt _ e.symm).1;omega
     have k0:=hG.out.1.cell (N5.out.cell 0) hNb;have k1:=hG.out.1.cell (N5.out.cell 1) hNb;have k3:=hG.out.1.cell (N5.out.cell 3) hNb;have hq:=hG.out.2;rw[List.take_length,List.drop_length,List.map_nil,List.append_nil]at hq;have HNX:=Lib.hid (hF.out.put hbRi hlt hsz3' HGET.out (vc:=.slice ca nd.cuts.length cc) (vk:=.slice va nd.kids.length vcap) HQC.out (by rw[List.length_map,List.map_map];exact own_base hq (by omega)));have hdi:wi.cell? ⟨w2.heap.size,0,none⟩=some (.slice (some ⟨w1.heap.size,0,none⟩) o.length o.length):=(hbRi.cell (p:=⟨w2.heap.size,0,none⟩) (World.block_lt_of_cell? _ _ hdd)).trans hdd;have hNlt:wR.heap.size<wi.heap.size:=by omega
     clear hrow hG hbRi hq;go_wp2;go_roundw
     case rel=>exact⟨j+1,by omega,by go_num,HNX⟩
     case measure=>simp[intOf];omega
  ·obtain rfl:j=o.length:=by omega
   have HD:=Lib.hid (hF.out.done (fromD_len t o) (by unfold maxLen;omega) hsz3' (W.heap.size+1) (by omega) (by omega) (.slice (some ⟨w1.heap.size,0,none⟩) o.length o.length));have HBW:=Lib.hid (((HB1.out.trans (hbr.mono (by omega))).setCell (p:=⟨W.heap.size+1,0,none⟩) (by show W.heap.size<=W.heap.size+1;omega) (.slice (some ⟨w1.heap.size,0,none⟩) o.length o.length)));have hc1:=(hbr.cell (p:=⟨W.heap.size+1,0,none⟩) (by show W.heap.size+1<w1.heap.size;omega)).trans hd1b;have hz1:=(hbr.frozen (p:=⟨W.heap.size+1,0,none⟩) (by show W.heap.size+1<w1.heap.size;omega)).trans hz1b
   have hcs:(wR.setCell ⟨W.heap.size+1,0,none⟩ (.slice (some ⟨w1.heap.size,0,none⟩) o.length o.length)).cell? ⟨W.heap.size+1,0,none⟩=some (.slice (some ⟨w1.heap.size,0,none⟩) o.length o.length):=by
    have hblk:=((hbr.block (W.heap.size+1) (by omega)).trans HD1.out:Blk wR (W.heap.size+1) 75 #[.slice none 0 0]);exact(Blk.set hblk 0 _).cell 0
   clear hbr;go_upto_region 22 with(fail);refine bodyPost_ret (by simp[results,Tryz.results111,go_sem,hcs];try rfl) rfl ?_;exact⟨_,rfl,HD.out,HBW.out⟩
theorem from_any {nf:Nat}{lo hi:Nat->Int}(t:List Dn)(H mb:Nat)(S:List Nat)(x:Nat)(W:World)(hm:MkIs W H mb S t)(hT:TableD nf lo hi t)(hx:x<t.length)(hl:t.length<=20000)(hkb:∀n∈t,n.kids.length<=2000000):
  Calls Tryz.prog 111 #[.pointer (some ⟨mb,0,none⟩),.int .i64 (x:Int)] W fun e W'=>∃u,e=.returned (.tuple #[u,.int .i64 0])/\ DgIn W' W'.heap.size (fromD t (visitD t (nf+1) [] x)) u/\ Below W.heap.size W W':=by
 have hvo:=visit_ok hT (nf+1) [] x hx (by omega) List.nodup_nil (by simp);have:=List.Nodup.length_le_of_subset hvo.1.nodup (l₂:=List.range t.length) (fun y hy=>List.mem_range.2 (hvo.1.inside y hy));rw[List.length_range]at this;exact from_few t H mb S x W hm hT hx (by omega) (by omega) hkb
end
section
open Go.RowKit
mutual
def Fo.InP (w:World)(P:Nat->Prop):Fo->Value->Prop
 | .mk op nm c n ks,v=>∃(ao:Option Addr) (cap:Nat),v=.agg #[.int .i64 op,.string nm,.int .i64 c,.int .i64 n,.slice ao ks.length cap]/\
   W64 op/\ W64 c/\ W64 n/\ nm.size<=maxLen/\ ks.length<=cap/\ cap<=maxLen/\ (ks≠[]->∃b off,ao=some ⟨b,off,none⟩/\ P b/\ Fo.InPL w P ks b off)
def Fo.InPL (w:World)(P:Nat->Prop):List Fo->Nat->Nat->Prop
 | [],_,_=>True
 | k::ks,b,off=>(∃v0 v1 v2 v3 v4,w.cell? ⟨b,off,none⟩=some v0/\ w.cell? ⟨b,off+1,none⟩=some v1/\ w.cell? ⟨b,off+2,none⟩=some v2/\
   w.cell? ⟨b,off+3,none⟩=some v3/\ w.cell? ⟨b,off+4,none⟩=some v4/\ Fo.InP w P k (.agg #[v0,v1,v2,v3,v4]))/\ Fo.InPL w P ks b (off+5)
end
def Same (P:Nat->Prop)(w w':World):Prop:=∀b,P b->w'.heap[b]? =w.heap[b]?
mutual
theorem Fo.InP.step {w w':World}{P Q:Nat->Prop}(hb:Same P w w')(hq:∀b,P b->Q b):∀(f:Fo) (v:Value),f.InP w P v->f.InP w' Q v
 | .mk op nm c n ks,v=>by
  rintro⟨ao,cap,hv,h1,h2,h3,h4,h5,h6,h7⟩;refine⟨ao,cap,hv,h1,h2,h3,h4,h5,h6,fun hne=>?_⟩;obtain⟨b,off,ha,hlt,hL⟩:=h7 hne;exact⟨b,off,ha,hq b hlt,Fo.InPL.step hb hq hlt ks off hL⟩
theorem Fo.InPL.step {w w':World}{P Q:Nat->Prop}{b:Nat}(hb:Same P w w')(hq:∀b,P b->Q b)(hlt:P b):∀(ks:List Fo) (off:Nat),Fo.InPL w P ks b off->Fo.InPL w' Q ks b off
 | [],_=>fun _=>trivial
 | k::ks,off=>by
  rintro⟨⟨v0,v1,v2,v3,v4,c0,c1,c2,c3,c4,hk⟩,hks⟩;have hc:∀o,w'.cell? ⟨b,o,none⟩=w.cell? ⟨b,o,none⟩:=fun o=>World.cell?_of_block (a:=⟨b,o,none⟩) (hb b hlt)
  exact⟨⟨v0,v1,v2,v3,v4,(hc _).trans c0,(hc _).trans c1,(hc _).trans c2,(hc _).trans c3,(hc _).trans c4,Fo.InP.step hb hq k _ hk⟩,Fo.InPL.step hb hq hlt ks (off+5) hks⟩
end
mutual
theorem Fo.In.toP {w:World}{B:Nat}:∀(f:Fo) (v:Value),f.In w B v->f.InP w (· <B) v
 | .mk op nm c n ks,v=>by
  rintro⟨ao,cap,hv,h1,h2,h3,h4,h5,h6,h7⟩;refine⟨ao,cap,hv,h1,h2,h3,h4,h5,h6,fun hne=>?_⟩;obtain⟨b,off,ha,hlt,hL⟩:=h7 hne;exact⟨b,off,ha,hlt,Fo.InL.toP ks b off hL⟩
theorem Fo.InL.toP {w:World}{B:Nat}:∀(ks:List Fo) (b off:Nat),Fo.InL w B ks b off->Fo.InPL w (· <B) ks b off
 | [],_,_=>fun _=>trivial
 | k::ks,b,off=>by
  rintro⟨⟨v0,v1,v2,v3,v4,c0,c1,c2,c3,c4,hk⟩,hks⟩;exact⟨⟨v0,v1,v2,v3,v4,c0,c1,c2,c3,c4,Fo.In.toP k _ hk⟩,Fo.InL.toP ks b (off+5) hks⟩
end
mutual
theorem Fo.InP.back {w:World}{P:Nat->Prop}{B:Nat}(hP:∀b,P b->b<B):∀(f:Fo) (v:Value),f.InP w P v->f.In w B v
 | .mk op nm c n ks,v=>by
  rintro⟨ao,cap,hv,h1,h2,h3,h4,h5,h6,h7⟩;refine⟨ao,cap,hv,h1,h2,h3,h4,h5,h6,fun hne=>?_⟩;obtain⟨b,off,ha,hlt,hL⟩:=h7 hne;exact⟨b,off,ha,hP b hlt,Fo.InPL.back hP ks b off hL⟩
theorem Fo.InPL.back {w:World}{P:Nat->Prop}{B:Nat}(hP:∀b,P b->b<B):∀(ks:List Fo) (b off:Nat),Fo.InPL w P ks b off->Fo.InL w B ks b off
 | [],_,_=>fun _=>trivial
 | k::ks,b,off=>by
  rintro⟨⟨v0,v1,v2,v3,v4,c0,c1,c2,c3,c4,hk⟩,hks⟩;exact⟨⟨v0,v1,v2,v3,v4,c0,c1,c2,c3,c4,Fo.InP.back hP k _ hk⟩,Fo.InPL.back hP ks b (off+5) hks⟩
end
theorem Fo.InPL.get {w:World}{P:Nat->Prop}{b:Nat}:∀(ks:List Fo) (off i:Nat) (hi:i<ks.length),Fo.InPL w P ks b off->
  ∃(ao:Option Addr) (cap:Nat),w.cell? ⟨b,off+i*5,none⟩=some (.int .i64 ks[i].op)/\ w.cell? ⟨b,off+i*5+1,none⟩=some (.string ks[i].name)/\
   w.cell? ⟨b,off+i*5+2,none⟩=some (.int .i64 ks[i].cmp)/\ w.cell? ⟨b,off+i*5+3,none⟩=some (.int .i64 ks[i].n)/\
   w.cell? ⟨b,off+i*5+4,none⟩=some (.slice ao ks[i].kids.length cap)/\
   ks[i].InP w P (.agg #[.int .i64 ks[i].op,.string ks[i].name,.int .i64 ks[i].cmp,.int .i64 ks[i].n,.slice ao ks[i].kids.length cap])
 | k::ks,off,0,_=>by
  rintro⟨⟨v0,v1,v2,v3,v4,c0,c1,c2,c3,c4,hk⟩,_⟩;obtain⟨op,nm,c,n,kk⟩:=k;have hk':=hk;obtain⟨ao,cap,e,_⟩:=hk;simp only[Value.agg.injEq,Array.mk.injEq,List.cons.injEq,and_true]at e;obtain⟨rfl,rfl,rfl,rfl,rfl⟩:=e;simp only[Nat.zero_mul,Nat.add_zero];exact⟨ao,cap,c0,c1,c2,c3,c4,hk'⟩
 | k::ks,off,i+1,hi=>by
  rintro⟨_,hks⟩;have:=Fo.InPL.get ks (off+5) i (by simpa using hi) hks
  simpa[Nat.add_mul,Nat.add_assoc,Nat.add_comm,Nat.add_left_comm]using this
structure FoA where
 f:Fo
 ao:Option Addr
 cap:Nat
def FoA.cells (x:FoA):List Value:=[.int .i64 x.f.op,.string x.f.name,.int .i64 x.f.cmp,.int .i64 x.f.n,.slice x.ao x.f.kids.length x.cap]
def FoA.Ok (W:World)(P:Nat->Prop)(x:FoA):Prop:=x.f.InP W P (.agg x.cells.toArray)
theorem FoA.Ok.step {w w':World}{P Q:Nat->Prop}(hb:Same P w w')(hq:∀b,P b->Q b){x:FoA}(h:x.Ok w P):x.Ok w' Q:=Fo.InP.step hb hq _ _ h
theorem InPL_of_own {W:World}{g:Nat}{P:Nat->Prop}:∀(xs:List FoA) (off:Nat),(∀i (hi:i<xs.length),∀j,j<5->W.cell? ⟨g,off+i*5+j,none⟩=xs[i].cells[j]?)->(∀x∈xs,x.Ok W P)->Fo.InPL W P (xs.map (·.f)) g off
 | [],_,_,_=>trivial
 | x::xs,off,hc,hx=>by
  have h0:=hc 0 (by simp);simp only[Nat.zero_mul,Nat.add_zero,List.getElem_cons_zero]at h0;refine⟨⟨_,_,_,_,_,h0 0 (by omega),h0 1 (by omega),h0 2 (by omega),h0 3 (by omega),h0 4 (by omega),hx x (List.mem_cons_self ..)⟩,InPL_of_own xs (off+5) (fun i hi j hj=>?_) (fun y hy=>hx y (List.mem_cons_of_mem _ hy))⟩;have:=hc (i+1) (by simpa using hi) j hj;rw[List.getElem_cons_succ]at this;rw[<-this];congr 2
  omega
theorem foa_get :∀(xs:List FoA) (i j:Nat) (hi:i<xs.length),j<5->(xs.flatMap FoA.cells)[i*5+j]? =xs[i].cells[j]?
 | x::xs,0,j,_,hj=>by
  rw[List.flatMap_cons,List.getElem?_append_left (by show _<5;omega)]
  simp
 | x::xs,i+1,j,hi,hj=>by
  rw[List.flatMap_cons,List.getElem?_append_right (by show 5<=_;omega),show(i+1)*5+j-x.cells.length=i*5+j by show _-5=_;omega,foa_get xs i j (by simpa using hi) hj]
  simp
theorem own_fo {W:World}{base:Nat}{v:Value}{xs:List FoA}(h:W.ownsRow base 47 5 v xs.length (xs.flatMap FoA.cells)){P:Nat->Prop}(hP:∀g,v.ownBlock=some g->P g)(hx:∀x∈xs,x.Ok W P){op c n:Int}{nm:ByteArray}
  (h1:W64 op) (h2:W64 c) (h3:W64 n) (h4:nm.size<=maxLen):(Fo.mk op nm c n (xs.map (·.f))).InP W P (.agg #[.int .i64 op,.string nm,.int .i64 c,.int .i64 n,v]):=by
 rcases h.2 with⟨rfl,h0⟩ | ⟨g,cap,cur,rfl,_,hg,q1,q2,q3,q4⟩
 ·have:xs=[]:=List.length_eq_zero_iff.1 h0
  subst this;exact⟨none,0,rfl,h1,h2,h3,h4,Nat.zero_le _,Nat.zero_le _,fun e=>absurd rfl e⟩
 ·refine⟨some ⟨g,0,none⟩,cap,by rw[List.length_map],h1,h2,h3,h4,by rw[List.length_map];exact q1,q2,fun _=>⟨g,0,rfl,hP g rfl,InPL_of_own xs 0 (fun i hi j hj=>?_) hx⟩⟩
  rw[Nat.zero_add,h.cellAt _ (by omega)];exact foa_get xs i j hi hj
theorem Fo.InP.shape {w:World}{P:Nat->Prop}{f:Fo}{v:Value}(h:f.InP w P v):∃(ao:Option Addr) (cap:Nat),v=.agg #[.int .i64 f.op,.string f.name,.int .i64 f.cmp,.int .i64 f.n,.slice ao f.kids.length cap]/\ f.kids.length<=cap/\ cap<=maxLen/\ W64 f.op/\ W64 f.cmp/\ W64 f.n/\ f.name.size<=maxLen/\
  (f.kids≠[]->∃b off,ao=some ⟨b,off,none⟩/\ P b/\ Fo.InPL w P f.kids b off):=by
 obtain⟨op,nm,c,n,ks⟩:=f;obtain⟨ao,cap,rfl,h1,h2,h3,h4,h5,h6,h7⟩:=h;exact⟨ao,cap,rfl,h5,h6,h1,h2,h3,h4,h7⟩
end
end Go.Proofs.YtihniipjfdenbaaGreatDoor
