/- A formula in memory whose blocks have a property: what a step that keeps those blocks leaves; rows of formulas of the call's own. No conditions. -/
import Derived.Test.YtejbgoigkefnfaaGreatDoorAl
import Derived.Test.YtejbgoigkefnfaaGreatDoorDgIW
import Derived.Handy
set_option maxRecDepth 100000
set_option maxHeartbeats 4000000
namespace Go.Proofs.YtejbgoigkefnfaaGreatDoor
open Go.RowKit
abbrev PL (x:Nat):Value:=.int .i64 (x:Int)
def Iv (o:List Nat):List (Int×Int):=o.zipIdx.map fun p=>((p.1:Int),(p.2:Int))
theorem XF (o:List Nat)(x:Nat):Iv (o++[x])=Iv o++[((x:Int),(o.length:Int))]:=by
 unfold Iv;rw[List.zipIdx_append];simp
theorem Cu (x:Nat):∀(o:List Nat) (k:Nat),((o.zipIdx k).map fun p=>((p.1:Int),(p.2:Int))).lookup (x:Int)=if x∈o then some ((k+o.idxOf x:Nat):Int)else none
 | [],_=>by simp
 | y::o,k=>by{rw[List.zipIdx_cons,Va,Db];by_cases h:x=y;{subst h;simp};{(have h1:((x:Int)==(y:Int))=false:=by simp;omega);(have h2:(y==x)=false:=by rw[beq_eq_false_iff_ne];exact fun e=>h e.symm);dsimp only;rw[h1];dsimp only;rw[Cu x o (k+1)];by_cases hm:x∈o;{rw[if_pos hm,if_pos (La _ hm),mi,h2];simp only[cond_false];congr 2;omega};{rw[Aa hm,Aa (by simp[h,hm])]}}}
theorem ir (o:List Nat)(x:Nat):(Iv o).lookup (x:Int)=if x∈o then some ((o.idxOf x:Nat):Int)else none:=by
 have:=Cu x o 0;rw[dc]at this;exact this
structure iX (w0 : World) (H0 mb : Nat) : Prop where
 m:Bb w0 H0 65 #[.pointer (some ⟨mb,0,none⟩)]
 p:Bb w0 (H0+3) 134 #[.map (some (H0+2))]
 v:Bb w0 (H0+5) 135 #[.func (.func 97) #[] #[.pointer (some ⟨H0+3,0,none⟩),.pointer (some ⟨H0+4,0,none⟩),.pointer (some ⟨H0,0,none⟩),.pointer (some ⟨H0+5,0,none⟩)]]
 size:H0+6<=w0.heap.size
structure uP (w0 : World) (H0 : Nat) (o : List Nat) (W : World) : Prop where
 os:W.os=w0.os
 tape:W.tape=w0.tape
 output:W.output=w0.output
 size:w0.heap.size<=W.heap.size
 old:∀b,b<w0.heap.size->b≠H0+2->b≠H0+4->W.heap[b]? =w0.heap[b]?
 map:We (Value.int .i64) (Value.int .i64) W (H0+2) (Iv o)
 ord:∃v,Bb W (H0+4) 28 #[v]/\ W.ownsRow w0.heap.size 3 1 v o.length (o.map PL)
theorem uP.below {w0 W:World}{H0:Nat}{o:List Nat}(h:uP w0 H0 o W)(hs:H0+6<=w0.heap.size):Below (H0+2) w0 W:=
 ⟨h.os,h.tape,h.output,h.size,fun b hb=>h.old b ia ia ia⟩
theorem uz :∀w,(zeroValue 3).run Tryz.prog w=.ok (.int .i64 0) w:=Tryz.zeroValue3
theorem vP.key :KeyLaw (Value.int .i64) Tryz.prog 3:=jX Tryz.underlying3
theorem uP.push {w0 W W1 W2 w3:World}{H0:Nat}{o:List Nat}{x:Nat}{v:Value}(hs:H0+6<=w0.heap.size)(h:uP w0 H0 o W)(hx:x∉o)(hv:Bb W (H0+4) 28 #[v])(hown:W.ownsRow w0.heap.size 3 1 v o.length (o.map PL))
  (hm:We (Value.int .i64) (Value.int .i64) W1 (H0+2) (ins (Iv o) (x:Int) (o.length:Int))) (hu:kA (H0+2) W W1) (hb:Below W1.heap.size W1 W2) {g cap:Nat}
  (pI:w3.ownsRow w0.heap.size 3 1 (.slice (some ⟨g,0,none⟩) (o.length+1) cap) (o.length+1) (o.map PL++[PL x])) (hg:W2.grownBy w3 v.ownBlock):
  uP w0 H0 (o++[x]) (w3.setCell ⟨H0+4,0,none⟩ (.slice (some ⟨g,0,none⟩) (o.length+1) cap)):=by
 have Hn:∀b,v.ownBlock=some b->w0.heap.size<=b:=fun b e=>(hown.lt b e).1
 have hsz:=h.size;have hsz1:=hu.size;have G_:=hb.size
 have Ff:∀b,b<w0.heap.size->b≠H0+2->w3.heap[b]? =W.heap[b]? :=fun b hb0 hne=>by{rw[hg.block b ia (fun e=>by have:=Hn b e.symm;omega),hb.block b ia,hu.block b hne]}
 refine⟨(((hg.os.trans hb.os).trans hu.os).trans h.os),((hg.tape.trans hb.tape).trans hu.tape).trans h.tape,((hg.output.trans hb.output).trans hu.output).trans h.output,by have:=hg.size;simp;omega,fun b hb0 h2 h4=>?_,?_,⟨.slice (some ⟨g,0,none⟩) (o.length+1) cap,?_,?_⟩⟩
 {rw[Gc _ _ _ b (fun e=>h4 e),Ff b hb0 h2,h.old b hb0 h2 h4]}
 {obtain⟨es,c,e1,e2⟩:=hm;refine⟨es,c,?_,?_⟩;{rw[Gc _ _ _ (H0+2) (by show H0+2≠H0+4;omega),hg.block _ (by have:=je e1;omega) (fun e=>by have:=Hn _ e.symm;omega),hb.block _ (je e1)];exact e1};{rw[XF,e2,Hq _ _ _ (by rw[ir,Aa hx])]}}
 {have:Bb w3 (H0+4) 28 #[v]:=(Ff (H0+4) ia ia).trans hv;exact this.set 0 _}
 {rw[Ea,Lb];exact Kf pI _ _ fun g' e=>by have:=(pI.lt g' e).1;show g'≠H0+4;omega}
theorem Pj.node {W:World}{H mb:Nat}{S:List Nat}{t:List Dn}(h:Pj W H mb S t)(k:Nat)(hk:k<t.length):∃g cap vc vk mo,W.cell? ⟨mb,0,none⟩=some (.slice (some ⟨g,0,none⟩) t.length cap)/\ W.cell? ⟨mb,1,none⟩=some mo/\ H<=g/\ g<W.heap.size/\ mb<W.heap.size/\ t.length<=cap/\ cap<=maxLen/\
  W.cell? ⟨g,k*4,none⟩=some (.int .i64 (t.getD k default).fact)/\ W.cell? ⟨g,k*4+1,none⟩=some vc/\ W.cell? ⟨g,k*4+2,none⟩=some vk/\ W.cell? ⟨g,k*4+3,none⟩=some (.bool (t.getD k default).leaf)/\ Me W H S (t.getD k default).Ja vc/\ Me W H S (t.getD k default).kids vk:=by
 obtain⟨hge,⟨v,mo,xs,h1,h2,h3,h4,h5⟩,h6⟩:=h;have xq:xs.length=t.length:=by rw[<-h3,Sa]
 rw[xq]at h2;obtain⟨g,cap,rfl,hg,I4⟩:=h2.form ia
 have hcap:t.length<=cap/\ cap<=maxLen:=by{(rcases h2.2 with⟨e,_⟩ | ⟨g',cap',cur,e,_,_,q1,q2,_⟩);{cases e};{cases e;exact⟨q1,q2⟩}}
 have hk':k<xs.length:=by omega
 have hx:=h4 xs[k] (Ga hk')
 have hn:xs[k].n=t.getD k default:=by{rw[Eb _ _ _ hk];simp only[<-h3,Gd]}
 have hc:∀j,j<4->W.cell? ⟨g,k*4+j,none⟩=xs[k].cells[j]? :=fun j hj=>by{rw[h2.cellAt _ ia];have flat:∀(xs:List Jh) (k:Nat) (hk:k<xs.length),(xs.flatMap Jh.cells)[k*4+j]? =xs[k].cells[j]? :=by{intro xs;induction xs with| nil=>intro k hk;simp at hk| cons x xs ih=>{intro k hk;cases k with| zero=>rw[jc,zf (by show _<4;omega)];simp| succ k=>{rw[jc,de (by show 4<=_;omega),show(k+1)*4+j-x.cells.length=k*4+j by show _-4=_;omega,ih k (by simpa using hk)];simp}}};exact flat xs k hk'}
 refine⟨g,cap,xs[k].vc,xs[k].vk,_,h1.cell 0,h1.cell 1,hg,I4,h1.lt,hcap.1,hcap.2,?_,?_,?_,?_,?_,?_⟩
 {rw[<-hn];exact hc 0 ia}
 {exact hc 1 ia}
 {exact hc 2 ia}
 {rw[<-hn];exact hc 3 ia}
 {rw[<-hn];exact hx.Ja}
 {rw[<-hn];exact hx.kids}
abbrev kX (w0:World)(H0:Nat)(nf:Nat)(t:List Dn)(f:Nat):Prop:=
 ∀(x:Nat) (o:List Nat) (W:World),x<t.length->nf-Fb nf (t.getD x default)<f->o.Nodup->(∀y∈o,y<t.length)->uP w0 H0 o W->
  Calls Tryz.prog 97 #[.int .i64 (x:Int),.pointer (some ⟨H0+3,0,none⟩),.pointer (some ⟨H0+4,0,none⟩),.pointer (some ⟨H0,0,none⟩),.pointer (some ⟨H0+5,0,none⟩)] W fun e W'=>e=.returned (.tuple #[])/\ uP w0 H0 (Yb t f o x) W'
theorem uP.blk {w0 W:World}{H0:Nat}{o:List Nat}(h:uP w0 H0 o W){b:Nat}{ty:TypeId}{cs:Array Value}(hb:Bb w0 b ty cs)(h2:b≠H0+2)(h4:b≠H0+4):Bb W b ty cs:=(h.old b hb.lt h2 h4).trans hb
theorem KI {nf:Nat}{lo hi:Nat->Int}{t:List Dn}(nT w0:World)(H H0 mb:Nat)(S:List Nat)(hE:iX w0 H0 mb)(OY:nT.heap.size=H0)(hm:Pj nT H mb S t)(hb0:Below H0 nT w0)(C1:w0.heap.size=H0+6)
  (hT:Lg nf lo hi t) (hl:t.length<=900000) (f:Nat) (IH:kX w0 H0 nf t f):kX w0 H0 nf t (f+1):=by
 intro x o W hx hf hnd hin hst;obtain⟨v,Hn,hown⟩:=hst.ord;have hsz:=hst.size;have b1:=(hst.blk hE.m ia ia).cell 0;have b2:=(hst.blk hE.p ia ia).cell 0;have b3:=(hst.blk hE.v ia ia).cell 0;have b4:=Hn.cell 0;have hlk:=Sn vP.key Tryz.underlying134 uz hst.map (x:Int);rw[ir]at hlk
 have J4:o.length<=t.length:=by{have:=Xc hnd (l₂:=List.range t.length) (fun y hy=>List.mem_range.2 (hin y hy));rwa[Pd]at this}
 by_cases wP:x∈o
 {rw[if_pos wP]at hlk;have HV:=da (show Yb t (f+1) o x=o by rw[Yb,if_pos wP]);have HS:=da hst;clear hst Hn hown wP IH;go_enter Tryz.func97,Tryz.ntmps97;go_wp2;refine Qa (results_none rfl _ _ _) rfl ?_;rw[HV.out];exact⟨rfl,HS.out⟩}
 ·rw[Aa wP]at hlk
  have HV:=da (show Yb t (f+1) o x=((t.getD x default).kids).foldl (fun o k=>Yb t f o k.toNat) (o++[x]) by rw[Yb,Aa wP]);obtain⟨i0,hi0,hz0,hz1,hz2⟩:=info_parts Ij;obtain⟨W1,aeJ,aF,GJ⟩:=run_store vP.key Tryz.underlying134 hst.map (x:Int) (o.length:Int);obtain⟨va,zh,rR⟩:=Wd hown;have aiL:W.heap.size<=W1.heap.size:=lh GJ.size.symm;have c1:=(GJ.cell (p:=⟨H0,0,none⟩) (by show H0≠_;omega)).trans b1;have c2:=(GJ.cell (p:=⟨H0+3,0,none⟩) (by show H0+3≠_;omega)).trans b2;have c3:=(GJ.cell (p:=⟨H0+5,0,none⟩) (by show H0+5≠_;omega)).trans b3;have c4:=(GJ.cell (p:=⟨H0+4,0,none⟩) (by show H0+4≠_;omega)).trans b4;have lX:Bb W1 (H0+4) 28 #[v]:=(GJ.block _ ia).trans Hn;have z4:=lX.frozen 0;have Tq:W1.ownsRow w0.heap.size 3 1 v o.length (o.map PL):=xi hown fun g hg=>GJ.block g (by have:=(hown.lt g hg).1;omega)
  have mu:=da (fun(W2 w3:World) (hb:Below W1.heap.size W1 W2) g cap pI hg=>hst.push (W2:=W2) (w3:=w3) (g:=g) (cap:=cap) ia wP Hn hown aF GJ hb pI hg);have YU:=da Tq
  have FU:=da (show(o++[x]).Nodup/\ ∀y∈o++[x],y<t.length from⟨by
   rw[Bf]
   exact⟨hnd,la,fun a ha b hb e=>by rw[Nb]at hb;subst hb;subst e;exact wP ha⟩,fun y hy=>by
   rcases List.mem_append.1 hy with hy | hy
   {exact hin y hy}
   ·rw[Nb]at hy;rw[hy];exact hx⟩)
  subst rR;obtain⟨g,cap,vc,vk,mo,e0,_,_,I4,aiM,aeK,L4,_,_,e2,_,_,dq⟩:=hm.node x hx
  have BM:∀k∈(t.getD x default).kids,k.toNat<t.length/\ nf-Fb nf (t.getD k.toNat default)<f/\ 0<=k:=by{intro k hk;have hne:=Vc hk;have h1:=((hT x hx).inner hne).2.2.2.2.2.2.2 k hk;have h2:(t.getD x default).fact.toNat<Fb nf (t.getD k.toNat default):=h1.2.2;(have h3:Fb nf (t.getD x default)=(t.getD x default).fact.toNat:=by unfold Fb;rw[Aa hne]);have h4:=ig hT h1.2.1;exact⟨h1.2.1,ia,h1.1⟩}
  have dl:(t.getD x default).kids.length<=maxLen:=by{obtain⟨ao,cp,_,q1,q2,_⟩:=Xa.shape dq.1;omega}
  have HKD:=da BM;have zJ:=da dq;obtain⟨ka,kc,DO,kl1,kl2,_⟩:=Xa.shape dq.1;subst DO;have Gt:=da IH;have HE:=da hE;have Yi:=da hb0;generalize(t.getD x default).kids=kids at*
  unfold maxLen at dl kl2 L4;clear hst Hn hown aF GJ lX Tq hnd hin wP hm dq BM IH hE hb0;have hT0:=hT;clear hT;go_enter Tryz.func97,Tryz.ntmps97;go_wp2_with (at_builtin;refine wpList_append_own_at _ Ha _ _ 28 Ha w0.heap.size 3 i0 _ 1 8 Tryz.underlying28 hi0 hz0 hz1 hz2 rfl pa _ o.length _ Ha (YU.out.alloc _) ⟨W1.heap.size,0,none⟩ 1 1 [PL x] Ha Ha (cell_one_new _ _ _) (by intro u hu;simp at hu;subst hu;rfl) (by unfold maxLen;omega) ia (by simp;omega) ?_;intro v4 w4 Zn Wp xP mX;refine Hid.out ?_);refine da ?_;obtain⟨g4,oT,rfl,lZ,M4⟩:=Zn.form ia;have O4:∀e:some (H0+4)=(Value.slice va o.length zh).ownBlock,False:=fun e=>by have:=(YU.out.lt _ e.symm).1;omega
  have mH:=Wp.block (H0+4) (by rw[Ba];omega) O4;have c4b:w4.cell? ⟨H0+4,0,none⟩=some (.slice va o.length zh):=(World.cell?_of_block (a:=⟨H0+4,0,none⟩) mH).trans ((World.cell?_of_block (a:=⟨H0+4,0,none⟩) (Tb W1 _ (H0+4) ia)).trans c4);have z4b:w4.frozen? ⟨H0+4,0,none⟩=false:=(ph (a:=⟨H0+4,0,none⟩) mH).trans ((ph (a:=⟨H0+4,0,none⟩) (Tb W1 _ (H0+4) ia)).trans z4);have HST:=da (mu.out _ w4 ((za _ _).alloc (ja _) _) g4 oT Zn Wp);have hb4:=HST.out.below ia;go_upto_region 4 with(fail);have d1:=(HST.out.blk HE.out.m ia ia).cell 0;have d3:=(HST.out.blk HE.out.v ia ia).cell 0;have d4:=((Yi.out.trans (hb4.mono ia)).cell (p:=⟨mb,0,none⟩) (by show mb<_;omega)).trans e0;have d5:=((Yi.out.trans (hb4.mono ia)).cell (p:=⟨g,x*4+2,none⟩) (by show g<_;omega)).trans e2;clear Zn Wp xP mX hb4 O4 mH c4b z4b;generalize w4.setCell ⟨H0+4,0,none⟩ (.slice (some ⟨g4,0,none⟩) (o.length+1) oT)=w5 at*
  have ZY:(0:Int)<=(x:Int):=Ab _;have hx1:(x:Int)<(t.length:Int):=by omega
  go_wp2
  go_loopw [35] (fun ix wr=>∃(j:Nat) (o2:List Nat),j<=kids.length/\ ix=.int .i64 j/\ Hid (o2=(kids.take j).foldl (fun o k=>Yb t f o k.toNat) (o++[x]))/\ Hid (uP w0 H0 o2 wr)/\ Hid (o2.Nodup/\ ∀y∈o2,y<t.length)) (fun ix _=>kids.length-(intOf ix).toNat)
  case atStart=>exact⟨0,o++[x],ia,rfl,rfl,HST,FU⟩
  case round=>(obtain⟨j,o2,hj,rfl,pI,P4,vz⟩:=hrel;clear HST FU d1 d3 d4 d5;have c1':=(P4.out.blk HE.out.v ia ia).cell 0;by_cases hlt:j<kids.length;{have ud:=P4.out.below ia;obtain⟨kb,ko,rfl,hkb,hkc⟩:=Xa.one zJ.out.1 j hlt;have bS:=((Yi.out.trans (ud.mono ia)).cell (p:=⟨kb,ko+j,none⟩) (by show kb<_;omega)).trans hkc;have hk:=HKD.out kids[j] (Ga _);have xz:(kids.take (j+1)).foldl (fun o k=>Yb t f o k.toNat) (o++[x])=Yb t f o2 kids[j].toNat:=by{rw[Ka hlt,Od, <-pI.out];rfl};generalize kids[j]=kv at*;obtain⟨kn,rfl⟩:∃kn:Nat,kv=kn:=⟨kv.toNat,ia⟩;rw[Gb]at hk xz;have HF:=da xz;have HI:=da (Gt.out kn o2 wr hk.1 hk.2.1 vz.out.1 vz.out.2 P4.out);have yP:=da (Ro hT0 f o2 kn hk.1 hk.2.1 vz.out.1 vz.out.2).1;clear hkc xz ud P4 vz pI;go_wp2_with (go_at_call 97;refine HI.out.mono ?_;rintro e w6 ⟨rfl,hS6⟩;have XR:=da hS6;clear hS6);go_roundw;(case rel=>exact⟨j+1,Yb t f o2 kn,ia,by go_num,by rw[HF.out];rfl,XR,⟨yP.out.nodup,yP.out.inside⟩⟩);case measure=>simp[intOf];omega};{(have Mk:j=kids.length:=ia);have HO:=pI.out;rw[Mk,Jb, <-HV.out]at HO;have bK:=da HO;clear HO pI;go_wp2;go_end0;rw[<-bK.out];exact⟨rfl,P4.out⟩})
theorem LI (l:List Int)(v:Value)(w:World)(hlen:l.length<=2000000)(hl:IntsIn w w.heap.size l v):
  Calls Tryz.prog 98 #[v] w fun e w'=>∃v',e=.returned v'/\ w'.ownsRow w.heap.size 3 1 v' l.length (l.map iW)/\ Below w.heap.size w w':=by
 obtain⟨ao,cap,rfl,h1,h2,h4⟩:=hl;obtain⟨i0,hi0,hz0,hz1,hz2⟩:=info_parts Ij;have hq:=fun(w:World)=>Lib.run_eql_slice_nil (P:=Tryz.prog) w 28 3 ao l.length cap 0 0 Tryz.underlying28
 have HO:Hid ((w.alloc (.cells #[] 3)).ownsRow w.heap.size 3 1 (.slice (some ⟨w.heap.size,0,none⟩) 0 0) 0 []):=⟨rfl,.inr ⟨w.heap.size,0,#[],rfl,ja _,heap_alloc_new _ _,ja _,xb _,rfl,rfl⟩⟩;cases ao with| none=>{have hn:l=[]:=by{apply Classical.byContradiction;intro e;obtain⟨b,off,ha,_⟩:=h4 e;cases ha};have HN:=da hn;clear hn h4;go_enter Tryz.func98,Tryz.ntmps98;go_wp2;go_ret;have hn:=HN.out;subst hn;exact⟨_,rfl,ic _ _ _ _,za _ _⟩}| some a=>{have hnews:∀j u,(l.map iW)[j]? =some u->(w.alloc (.cells #[] 3)).cell? (a.add j)=some u:=by{intro j u hj;rw[Kb]at hj;have cR:j<l.length:=by{(rcases Kc j l.length with h | h);{exact h};{rw[Lh h]at hj;cases hj}};rw[Pa cR]at hj;obtain⟨b,off,ha,hb,hc⟩:=h4 (by intro e;simp[e]at cR);(cases ha);have h5:w.cell? ⟨b,off+j*1,none⟩=some (.int .i64 l[j]):=hc j cR;rw[Nat.mul_one]at h5;(have OO:(⟨b,off,none⟩:Addr).add j=⟨b,off+j,none⟩:=by unfold Addr.add;split<;>simp_all);rw[OO,World.cell?_of_block (w:=w) (a:=⟨b,off+j,none⟩) (Tb w _ b hb),h5];exact hj};have HN:=da hnews;clear h4 hnews;go_enter Tryz.func98,Tryz.ntmps98;go_wp2_with (at_builtin;refine wpList_append_own_at _ rfl _ _ 28 rfl w.heap.size 3 i0 _ 1 8 Tryz.underlying28 hi0 hz0 hz1 hz2 rfl pa _ _ _ rfl HO.out a l.length cap (l.map iW) rfl la HN.out (by intro u hu;obtain⟨y,_,rfl⟩:=List.mem_map.1 hu;rfl) (by unfold maxLen;omega) ia la ?_;intro v' w1 Yk hgrow hnil hat;refine Hid.out ?_);refine da ?_;have hb0:Below w.heap.size w w1:=((za w.heap.size w).alloc (ja _) (.cells #[] 3)).grown hgrow la (fun k e=>by cases e;exact ja _);rw[dc,Ya]at Yk;have HW:=da Yk;clear Yk hgrow hnil hat;go_wp2;go_ret;exact⟨_,rfl,HW.out,hb0⟩}
section
def yo :pg Dn:=fun w B x b o=>∃vc vk,w.cell? ⟨b,o,none⟩=some (.int .i64 x.fact)/\ w.cell? ⟨b,o+1,none⟩=some vc/\ w.cell? ⟨b,o+2,none⟩=some vk/\ w.cell? ⟨b,o+3,none⟩=some (.bool x.leaf)/\ IntsIn w B x.Ja vc/\ IntsIn w B x.kids vk
theorem yo.kept :yo.Kept:=by
 rintro w w' B x b o hb hlt ⟨vc,vk,h0,h1,h2,h3,h4,h5⟩;refine⟨vc,vk,?_,?_,?_,?_,h4.below hb,h5.below hb⟩<;>(rw[hb.cell (by exact hlt)];assumption)
theorem yo.mono :yo.QL:=by
 rintro w B B' x b o hb ⟨vc,vk,h0,h1,h2,h3,h4,h5⟩;exact⟨vc,vk,h0,h1,h2,h3,Xa.mono (bm.mono _) hb h4,Xa.mono (bm.mono _) hb h5⟩
def oe (w:World)(B:Nat)(g:List Dn)(v:Value):Prop:=∃u,v=.agg #[u]/\ Xa yo 4 w B g u
theorem oe.below {w w':World}{B:Nat}(hb:Below B w w'){g:List Dn}{v:Value}(h:oe w B g v):oe w' B g v:=by
 obtain⟨u,rfl,h1⟩:=h;exact⟨u,rfl,h1.below yo.kept hb⟩
theorem oe.mono {w:World}{B B':Nat}(hb:B<=B'){g:List Dn}{v:Value}(h:oe w B g v):oe w B' g v:=by
 obtain⟨u,rfl,h1⟩:=h;exact⟨u,rfl,h1.mono yo.mono hb⟩
theorem Oh {P:Program}{w:World}{a:Addr}{m:Mode}(f:Fn)(x y:Array Value):(store a (.func f x y) m).run P w=stored P w a (.func f x y) m:=Go.run_store P w a _ m rfl
theorem pT (W:World)(mb:Nat):∃w0,w0=(((((W.alloc (.cells #[.pointer (some ⟨mb,0,none⟩)] 65)).alloc (.cells #[.slice none 0 0] 34)).alloc (.map #[] 0)).alloc (.cells #[.map (some (W.heap.size+1+1))] 134)).alloc (.cells #[.slice none 0 0] 28)).alloc (.cells #[.func (.func 97) #[] #[.pointer (some ⟨W.heap.size+1+1+1,0,none⟩),.pointer (some ⟨W.heap.size+1+1+1+1,0,none⟩),.pointer (some ⟨W.heap.size,0,none⟩),.pointer (some ⟨W.heap.size+1+1+1+1+1,0,none⟩)]] 135)/\
  iX w0 W.heap.size mb/\ uP w0 W.heap.size [] w0/\ Below W.heap.size W w0/\ w0.heap.size=W.heap.size+6/\ Bb w0 (W.heap.size+1) 34 #[.slice none 0 0]:=by
 refine⟨_,rfl,?_,?_,?_,la,?_⟩
 ·exact⟨((((((Bb.new W _ _).alloc _).alloc _).alloc _).alloc _).alloc _),(by
   have q:=((Bb.new (((W.alloc (.cells #[.pointer (some ⟨mb,0,none⟩)] 65)).alloc (.cells #[.slice none 0 0] 34)).alloc (.map #[] 0)) 134 #[.map (some (W.heap.size+1+1))]).alloc (.cells #[.slice none 0 0] 28)).alloc (.cells #[.func (.func 97) #[] #[.pointer (some ⟨W.heap.size+1+1+1,0,none⟩),.pointer (some ⟨W.heap.size+1+1+1+1,0,none⟩),.pointer (some ⟨W.heap.size,0,none⟩),.pointer (some ⟨W.heap.size+1+1+1+1+1,0,none⟩)]] 135)
   simpa only[Ba]using q),(by
   have q:=Bb.new (((((W.alloc (.cells #[.pointer (some ⟨mb,0,none⟩)] 65)).alloc (.cells #[.slice none 0 0] 34)).alloc (.map #[] 0)).alloc (.cells #[.map (some (W.heap.size+1+1))] 134)).alloc (.cells #[.slice none 0 0] 28)) 135 #[.func (.func 97) #[] #[.pointer (some ⟨W.heap.size+1+1+1,0,none⟩),.pointer (some ⟨W.heap.size+1+1+1+1,0,none⟩),.pointer (some ⟨W.heap.size,0,none⟩),.pointer (some ⟨W.heap.size+1+1+1+1+1,0,none⟩)]]
   simpa only[Ba]using q),la⟩
 {refine⟨rfl,rfl,rfl,ja _,fun _ _ _ _=>rfl,⟨#[],0,?_,rfl⟩,.slice none 0 0,?_,ic _ _ _ _⟩;{have q:=World.alloc_heap_new ((W.alloc (.cells #[.pointer (some ⟨mb,0,none⟩)] 65)).alloc (.cells #[.slice none 0 0] 34)) (.map #[] 0);simp only[Ba]at q;rw[Tb _ _ _ la,Tb _ _ _ la,Tb _ _ _ la];exact q};{have q:=(Bb.new ((((W.alloc (.cells #[.pointer (some ⟨mb,0,none⟩)] 65)).alloc (.cells #[.slice none 0 0] 34)).alloc (.map #[] 0)).alloc (.cells #[.map (some (W.heap.size+1+1))] 134)) 28 #[.slice none 0 0]).alloc (.cells #[.func (.func 97) #[] #[.pointer (some ⟨W.heap.size+1+1+1,0,none⟩),.pointer (some ⟨W.heap.size+1+1+1+1,0,none⟩),.pointer (some ⟨W.heap.size,0,none⟩),.pointer (some ⟨W.heap.size+1+1+1+1+1,0,none⟩)]] 135);simpa only[Ba]using q}}
 {exact((((((za _ _).alloc (ja _) _).alloc la _).alloc (by simp;omega) _).alloc (by simp;omega) _).alloc (by simp;omega) _).alloc (by simp;omega) _}
 {have q:=((((Bb.new (W.alloc (.cells #[.pointer (some ⟨mb,0,none⟩)] 65)) 34 #[.slice none 0 0]).alloc (.map #[] 0)).alloc (.cells #[.map (some (W.heap.size+1+1))] 134)).alloc (.cells #[.slice none 0 0] 28)).alloc (.cells #[.func (.func 97) #[] #[.pointer (some ⟨W.heap.size+1+1+1,0,none⟩),.pointer (some ⟨W.heap.size+1+1+1+1,0,none⟩),.pointer (some ⟨W.heap.size,0,none⟩),.pointer (some ⟨W.heap.size+1+1+1+1+1,0,none⟩)]] 135);simpa only[Ba]using q}
theorem yz {nf:Nat}{lo hi:Nat->Int}{t:List Dn}(nT w0:World)(H H0 mb:Nat)(S:List Nat)(hE:iX w0 H0 mb)(OY:nT.heap.size=H0)(hm:Pj nT H mb S t)(hb0:Below H0 nT w0)(C1:w0.heap.size=H0+6)
  (hT:Lg nf lo hi t) (hl:t.length<=900000):∀f,kX w0 H0 nf t f
 | 0=>fun x o W hx hf=>by omega
 | f+1=>KI nT w0 H H0 mb S hE OY hm hb0 C1 hT hl f (yz nT w0 H H0 mb S hE OY hm hb0 C1 hT hl f)
structure nX (w1 : World) (B R : Nat) (d : List Dn) (n j : Nat) (W : World) : Prop where
 iq:ld R [] w1 W
 row:∃xs:List Value,W.ownsRow R 56 4 (.slice (some ⟨R,0,none⟩) n n) n xs/\ ∀i,i<j->∃vc vk,xs[i*4]? =some (.int .i64 (d.getD i default).fact)/\ xs[i*4+1]? =some vc/\ xs[i*4+2]? =some vk/\ xs[i*4+3]? =some (.bool (d.getD i default).leaf)/\
  IntsIn w1 B (d.getD i default).Ja vc/\ W.ownsRow w1.heap.size 3 1 vk (d.getD i default).kids.length ((d.getD i default).kids.map iW)
theorem zu {W:World}{b b' e k n:Nat}{v:Value}{xs:List Value}(h:W.ownsRow b e k v n xs)(hb:b'<=b):W.ownsRow b' e k v n xs:=
 ⟨h.1,h.2.imp id fun⟨g,cap,cur,h1,h2,h3⟩=>⟨g,cap,cur,h1,Wa hb h2,h3⟩⟩
theorem nX.put {w1 W wi:World}{B R:Nat}{d:List Dn}{n j:Nat}(h:nX w1 B R d n j W)(hb:Below W.heap.size W wi)(hj:j<n)(hR:R<w1.heap.size){x:Dn}(hx:d.getD j default=x){vc vk:Value}
  (hc:IntsIn w1 B x.Ja vc) (hk:wi.ownsRow w1.heap.size 3 1 vk x.kids.length (x.kids.map iW)):
  nX w1 B R d n (j+1) ((((wi.setCell ⟨R,j*4,none⟩ (.int .i64 x.fact)).setCell ⟨R,j*4+1,none⟩ vc).setCell ⟨R,j*4+2,none⟩ vk).setCell ⟨R,j*4+3,none⟩ (.bool x.leaf)):=by
 obtain⟨xs,h1,h2⟩:=h.row;have r0:=Nd h1 hb;have r1:=r0.stored (j*4) (.int .i64 x.fact);have r2:=r1.1.stored (j*4+1) vc;have r3:=r2.1.stored (j*4+2) vk;have r4:=r3.1.stored (j*4+3) (.bool x.leaf);have hl:xs.length=n*4:=h1.1
 have st:∀ {w w':World} {l:List Value},w.ownsRow R 56 4 (.slice (some ⟨R,0,none⟩) n n) n l->w.grownBy w' (some R)->ld R [] w w':=fun hw hg=>ld.Ej hg fun b e=>by{cases e;exact⟨ja _,.inr fun o ho=>(Jy hw R rfl).2 o ho⟩}
 have keep:∀(v:Value) (m:Nat) (ys:List Value),wi.ownsRow w1.heap.size 3 1 v m ys->((((wi.setCell ⟨R,j*4,none⟩ (.int .i64 x.fact)).setCell ⟨R,j*4+1,none⟩ vc).setCell ⟨R,j*4+2,none⟩ vk).setCell ⟨R,j*4+3,none⟩ (.bool x.leaf)).ownsRow w1.heap.size 3 1 v m ys:=fun v m ys hv=>by{(have ne:∀g,v.ownBlock=some g->g≠R:=fun g hg=>by have:=(hv.lt g hg).1;omega);exact Kf (Kf (Kf (Kf hv _ _ ne) _ _ ne) _ _ ne) _ _ ne}
 refine⟨((((h.iq.trans (ld.Vb hb (ja _))).trans (st r0 r1.2)).trans (st r1.1 r2.2)).trans (st r2.1 r3.2)).trans (st r3.1 r4.2),_,r4.1,fun i hi=>?_⟩;by_cases hij:i<j
 {obtain⟨uc,uk,e0,e1,e2,e3,e4,e5⟩:=h2 i hij;refine⟨uc,uk,?_,?_,?_,?_,e4,keep _ _ _ (Nd e5 hb)⟩;{rw[Cb ia,Cb ia,Cb ia,Cb ia];exact e0};{rw[Cb ia,Cb ia,Cb ia,Cb ia];exact e1};{rw[Cb ia,Cb ia,Cb ia,Cb ia];exact e2};{rw[Cb ia,Cb ia,Cb ia,Cb ia];exact e3}}
 {(obtain rfl:i=j:=ia);rw[hx];refine⟨vc,vk,?_,?_,?_,?_,hc,keep _ _ _ hk⟩;{rw[Cb ia,Cb ia,Cb ia,Ed ia]};{rw[Cb ia,Cb ia,Ed (by simp;omega)]};{rw[Cb ia,Ed (by simp;omega)]};{rw[Ed (by simp;omega)]}}
theorem rh {W:World}{b:Nat}{v:Value}{l:List Int}(h:W.ownsRow b 3 1 v l.length (l.map iW)):IntsIn W W.heap.size l v:=by
 obtain⟨a,c,rfl⟩:=Wd h;rcases h.2 with⟨e,hn⟩ | ⟨g,cap,cur,e,h1,h2,h3,h4,h5,h6⟩
 {obtain rfl:=List.length_eq_zero_iff.1 hn;(cases e);exact⟨none,0,rfl,ja _,xb _,fun h=>absurd rfl h⟩}
 {(cases e);refine⟨_,_,rfl,h3,h4,fun hne=>⟨g,0,rfl,je h2,fun i hi=>?_⟩⟩;show W.cell? ⟨g,0+i*1,none⟩=_;rw[dc,Nat.mul_one,h.cellAt i ia,Kb,Pa hi];rfl}
theorem nX.done {w1 W:World}{B R:Nat}{d:List Dn}{n:Nat}(h:nX w1 B R d n n W)(hn:d.length=n)(hm:n<=maxLen)(hR:R<w1.heap.size)(p:Nat)(hp:p<R)(hBp:B<=p)(u:Value):
  oe (W.setCell ⟨p,0,none⟩ u) (W.setCell ⟨p,0,none⟩ u).heap.size d (.agg #[.slice (some ⟨R,0,none⟩) n n]):=by
 obtain⟨xs,h1,h2⟩:=h.row;have hs:=h.iq.size;have hlt:=(h1.lt R rfl).2;have r0:=Kf h1 ⟨p,0,none⟩ u (fun g hg=>by cases hg;show R≠p;omega);refine⟨_,rfl,some ⟨R,0,none⟩,n,by rw[hn],ia,hm,fun _=>⟨R,0,rfl,by simpa using hlt,fun i hi=>?_⟩⟩;obtain⟨vc,vk,e0,e1,e2,e3,e4,e5⟩:=h2 i ia;have Jw:=Eb d i default hi;simp only[Jw]at e0 e1 e2 e3 e4 e5;have hb:Below B w1 (W.setCell ⟨p,0,none⟩ u):=((h.iq.below ia).mono ia).setCell hBp u;refine⟨vc,vk,?_,?_,?_,?_,Xa.mono (bm.mono _) (by simp;omega) (Xa.below (bm.kept _) hb e4),rh (Kf e5 _ _ fun g hg=>by have:=(e5.lt g hg).1;show g≠p;omega)⟩
 {rw[dc,r0.cellAt _ ia];exact e0}
 {rw[dc,r0.cellAt _ ia];exact e1}
 {rw[dc,r0.cellAt _ ia];exact e2}
 {rw[dc,r0.cellAt _ ia];exact e3}
attribute [local go_sem] Oh
theorem Qx {nf:Nat}{lo hi:Nat->Int}(t:List Dn)(H mb:Nat)(S:List Nat)(x:Nat)(W:World)(hm:Pj W H mb S t)(hT:Lg nf lo hi t)(hx:x<t.length)(hl:t.length<=20000)(hkb:∀n∈t,n.kids.length<=2000000):
  Calls Tryz.prog 47 #[.pointer (some ⟨mb,0,none⟩),.int .i64 (x:Int)] W fun e W'=>∃u,e=.returned (.tuple #[u,.int .i64 0])/\ oe W' W'.heap.size (ue t (Yb t (nf+1) [] x)) u/\ Below W.heap.size W W':=by
 have PR:=@run_makeMap Tryz.prog;obtain⟨w0,hw0,hE,Kw,hb0,LY,hD⟩:=pT W mb;have HI:=da (yz W w0 H W.heap.size mb S hE rfl hm hb0 LY hT ia (nf+1) x [] w0 hx ia ie la Kw);have zP:=Ro hT (nf+1) [] x hx ia ie la;have HV:=da zP
 have J4:(Yb t (nf+1) [] x).length<=t.length:=by{have:=Xc zP.1.nodup (l₂:=List.range t.length) (fun y hy=>List.mem_range.2 (zP.1.inside y hy));rwa[Pd]at this}
 have abw:=da hkb;have HT:=da hT;have GC:=hD.cell 0;have nJ:=hE.v.cell 0;have HE:=da hE;have HD:=da hD;have Yi:=da hb0;have HW0:=da hw0;have HM:=da hm;generalize Yb t (nf+1) [] x=o at*
 clear hm hT hkb hE Kw hb0 hD zP;go_enter Tryz.func47,Tryz.ntmps47;go_upto_region 5 with(fail);rw[<-HW0.out];clear hw0 HW0;have aiR:W.heap.size+6<=w0.heap.size:=by omega
 clear LY;go_upto_region 6 with(go_at_call 97;refine HI.out.mono ?_;rintro e w1 ⟨rfl,Eo⟩;have Bp:=da Eo;clear Eo);have hs1:=Bp.out.size;obtain⟨vo,Hn,hown⟩:=Bp.out.ord;have Q4:0<o.length:=List.length_pos_of_mem HV.out.2;obtain⟨ob,aiS,rfl,G9,abx⟩:=hown.form Q4;have c1:=Hn.cell 0;have Ve:=da (Yi.out.trans ((Bp.out.below ia).mono ia));have R8:=da (Bp.out.blk HD.out ia ia);have R4:=(Bp.out.blk HD.out ia ia).frozen 0;have oX:=(Bp.out.blk HD.out ia ia).cell 0;have pX:=(Bp.out.blk HE.out.m ia ia).cell 0;have qT:=(Bp.out.blk HE.out.p ia ia).cell 0;obtain⟨i0,hi0,hz0,hz1,hz2⟩:=info_parts Qo;obtain⟨w2,hrun,hrow,hgr⟩:=run_make_full (P:=Tryz.prog) w1 w1.heap.size 32 56 i0 _ 4 Tryz.underlying32 hi0 hz0 hz1 .i64 .i64 o.length (by rw[hz2];omega) (by unfold maxLen;omega) (ja _);have ud:Below w1.heap.size w1 w2:=⟨hgr.os,hgr.tape,hgr.output,hgr.size,fun b hb=>hgr.block b hb la⟩;have vL:w1.heap.size<w2.heap.size:=(hrow.lt _ rfl).2;have c2:=(ud.cell (p:=⟨W.heap.size+4,0,none⟩) (by show W.heap.size+4<w1.heap.size;omega)).trans c1;have d2:=(ud.cell (p:=⟨W.heap.size+1,0,none⟩) (by show W.heap.size+1<w1.heap.size;omega)).trans oX;have m2:=(ud.cell (p:=⟨W.heap.size,0,none⟩) (by show W.heap.size<w1.heap.size;omega)).trans pX;have p2:=(ud.cell (p:=⟨W.heap.size+3,0,none⟩) (by show W.heap.size+3<w1.heap.size;omega)).trans qT;have aby:=da Bp.out.map;have Vd:=da ud;have Ek:=da hrow;have Dk:=da hown;obtain⟨w3,hw3⟩:∃w3,w3=w2.alloc (.cells #[.slice (some ⟨w1.heap.size,0,none⟩) o.length o.length] 34):=⟨_,rfl⟩;have T4:w3.heap.size=w2.heap.size+1:=by rw[hw3];simp
 have CO:Hid (nX w3 W.heap.size w1.heap.size (ue t o) o.length 0 w3):=⟨ld.refl _ _ _,_,(by rw[hw3];exact hrow.alloc _),fun i hi=>ia⟩;have Qc:Hid (Below w1.heap.size w1 w3):=by rw[hw3];exact ud.alloc ia _
 have TY:Hid (Bb w3 w2.heap.size 34 #[.slice (some ⟨w1.heap.size,0,none⟩) o.length o.length]):=by rw[hw3];exact Bb.new _ _ _
 have HW3:=da hw3;have ZU:w1.heap.size<w3.heap.size:=by omega
 clear Hn hown hi0 hz0 hz1 hz2 Bp GC nJ HE HD Yi hgr ud hrow hw3 T4;go_upto_region 9 with(fail);rw[<-HW3.out];have c3:=(Qc.out.cell (p:=⟨W.heap.size+4,0,none⟩) (by show W.heap.size+4<w1.heap.size;omega)).trans c1;clear c2 d2 m2 p2 HW3 Vd Ek hrun vL;go_wp2
 go_loopw [29] (fun ix wr=>∃(j:Nat),j<=o.length/\ ix=.int .i64 j/\ Hid (nX w3 W.heap.size w1.heap.size (ue t o) o.length j wr)) (fun ix _=>o.length-(intOf ix).toNat)
 case atStart=>exact⟨0,ia,rfl,CO⟩
 case round=>((rename World=>wR);obtain⟨j,hj,rfl,hF⟩:=hrel;have hwr:=hF.out.iq.size;have bA:=Qc.out.trans (hF.out.iq.below ia);have hdd:wR.cell? ⟨w2.heap.size,0,none⟩=some (.slice (some ⟨w1.heap.size,0,none⟩) o.length o.length):=(World.cell?_of_block (a:=⟨w2.heap.size,0,none⟩) ((hF.out.iq.keep _ _ TY.out (.inr ⟨rfl,la⟩)).trans TY.out.symm)).trans (TY.out.cell 0);have hm2:=(bA.cell (p:=⟨W.heap.size,0,none⟩) (by show W.heap.size<w1.heap.size;omega)).trans pX;have hp2:=(bA.cell (p:=⟨W.heap.size+3,0,none⟩) (by show W.heap.size+3<w1.heap.size;omega)).trans qT;have hp1:=qT;have abz:=oX;have abA:=R4;clear pX qT c1 oX c3 R4;by_cases hlt:j<o.length;{have hoj:=(bA.cell (p:=⟨ob,j,none⟩) abx).trans (Dk.out.cellAt j ia);rw[Kb,Pa hlt]at hoj;have qX:=HV.out.1.inside o[j] (Ga _);(have U4:=fun k (hk:k∈(t.getD o[j] default).kids)=>And.intro (((HT.out o[j] qX).inner (Vc hk)).2.2.2.2.2.2.2 k hk).1 (HV.out.1.closed o[j] (Ga _) la k hk));(have hget:=Pr (t:=t) hlt;obtain⟨g,Gw,vc,vk,mo,q1,_,_,KA,hg2,hg3,_,q2,q3,q4,q5,qc,qk⟩:=HM.out.node o[j] qX;generalize o[j]=oj at*);have YG:=Ve.out.trans (bA.mono ia);have RB:=(YG.cell (p:=⟨mb,0,none⟩) hg2).trans q1;have hn0:=(YG.cell (p:=⟨g,oj*4,none⟩) KA).trans q2;have V4:=(YG.cell (p:=⟨g,oj*4+1,none⟩) KA).trans q3;have SY:=(YG.cell (p:=⟨g,oj*4+2,none⟩) KA).trans q4;have hn3:=(YG.cell (p:=⟨g,oj*4+3,none⟩) KA).trans q5;have abC:(t.getD oj default).kids.length<=2000000:=by{rw[Eb _ _ _ qX];exact abw.out _ (Ga _)};generalize t.getD oj default=nd at*;have PZ:=da (Xa.below (bm.kept _) (Ve.out.trans (Qc.out.mono ia)) qc.1);have A9:=da (Xa.below (bm.kept _) YG qk.1);have rX:=da U4;have M8:=da (show nd.kids.length<=2000000 from abC);have abD:=da hget;(have aiU:mb<wR.heap.size:=ia);(have lZ:g<wR.heap.size:=ia);(have aiV:ob<wR.heap.size:=ia);obtain⟨ca,cc,rfl,_,_,_⟩:=Xa.shape qc.1;obtain⟨ka,kc,rfl,_,_,_⟩:=Xa.shape qk.1;clear q1 q2 q3 q4 q5 qc qk YG bA U4 hget;simp only[Option.map_some]at hoj;(have dl:nd.kids.length<=2000000:=by have:=M8.out;omega);go_upto_region 13 with(fail);have Og:=da (LI nd.kids _ (wR.alloc (.cells #[.int .i64 nd.fact,.slice ca nd.Ja.length cc,.slice ka nd.kids.length kc,.bool nd.leaf] 56)) dl ((A9.out.below (bm.kept _) (((za _ _).alloc (ja _) _).mono ia)).mono (bm.mono _) (by rw[Ba];omega)));go_upto_region 14 with(go_at_call 98;refine Og.out.mono ?_;rintro e w4 ⟨v4,rfl,h4,hb4⟩;have H4:=da h4;have Oe:=da hb4;obtain⟨va,zh,mZ⟩:=Wd h4;subst mZ;have n4:=((Bb.new wR 56 #[.int .i64 nd.fact,.slice ca nd.Ja.length cc,.slice ka nd.kids.length kc,.bool nd.leaf]).below hb4);have n42:=n4.cell 2;have z42:=n4.frozen 2;have N4:=da n4;clear h4 hb4 n4);have N5:=da (N4.out.set 2 (.slice va nd.kids.length zh));have n52:=N5.out.cell 2;(have H4b:w4.ownsRow (wR.heap.size+1) 3 1 (.slice va nd.kids.length zh) nd.kids.length (nd.kids.map iW):=by have q:=H4.out;rwa[Ba]at q);have H5:=da (Kf H4b ⟨wR.heap.size,2,none⟩ (.slice va nd.kids.length zh) (fun g hg=>by have:=(H4b.lt g hg).1;show g≠wR.heap.size;omega));(have hs4:wR.heap.size+1<=w4.heap.size:=by have:=Oe.out.size;rwa[Ba]at this);have eh:Hid (Below wR.heap.size wR (w4.setCell ⟨wR.heap.size,2,none⟩ (.slice va nd.kids.length zh))):=(((za _ _).alloc (ja _) _).trans (Oe.out.mono (by rw[Ba];omega))).setCell (ja _) _;have Jf:Hid (Below w1.heap.size w1 (w4.setCell ⟨wR.heap.size,2,none⟩ (.slice va nd.kids.length zh))):=((Qc.out.trans (hF.out.iq.below ia)).trans ((((za _ _).alloc ia _).trans (Oe.out.mono (by simp;omega))).setCell (by show w1.heap.size<=wR.heap.size;omega) _));(have hs5:(w4.setCell ⟨wR.heap.size,2,none⟩ (.slice va nd.kids.length zh)).heap.size=w4.heap.size:=la);have aiZ:Hid (ld w1.heap.size [] wR (w4.setCell ⟨wR.heap.size,2,none⟩ (.slice va nd.kids.length zh))):=(((ld.refl _ _ _).alloc _).trans (ld.Vb Oe.out la)).trans (ld.Ej (row:=some wR.heap.size) (Cg _ _ _ _) (fun b e=>by cases e;exact⟨ia,.inr fun o ho=>by rw[show w4.heap[wR.heap.size]? =_ from N4.out]at ho;cases ho;rfl⟩));clear H4b;generalize w4.setCell ⟨wR.heap.size,2,none⟩ (.slice va nd.kids.length zh)=w5 at*;clear n42 z42 hn0 V4 SY hn3 RB hoj hm2 hp2;go_wp2;go_loopw [49] (fun ix wi=>∃(i:Nat),i<=nd.kids.length/\ ix=.int .i64 i/\ Hid (w5.grownBy wi (Value.slice va nd.kids.length zh).ownBlock/\ wi.ownsRow (wR.heap.size+1) 3 1 (.slice va nd.kids.length zh) nd.kids.length (((nd.kids.take i).map fun k=>iW ((o.idxOf k.toNat:Nat):Int))++(nd.kids.drop i).map iW))) (fun ix _=>nd.kids.length-(intOf ix).toNat);(case atStart=>exact⟨0,ia,rfl,⟨World.grownBy.refl _ _,by simpa using H5.out⟩⟩);case round=>((rename World=>wi);obtain⟨i,hi,rfl,hG⟩:=hrel;have hsi:w5.heap.size<=wi.heap.size:=hG.out.1.size;have hbi:Below w1.heap.size w1 wi:=Jf.out.grown hG.out.1 ia (fun k hk=>by have:=(H5.out.lt k hk).1;omega);have hni:wi.cell? ⟨wR.heap.size,2,none⟩=some (.slice va nd.kids.length zh):=(hG.out.1.cell n52 (fun e=>by have:wR.heap.size+1<=wR.heap.size:=(H5.out.lt _ e.symm).1;omega));by_cases FK:i<nd.kids.length;{have hpi:=(hbi.cell (p:=⟨W.heap.size+3,0,none⟩) (by show W.heap.size+3<w1.heap.size;omega)).trans hp1;obtain⟨vb,CM,Mu,Hn,lX⟩:=hG.out.2.form ia;(obtain⟨rfl,rfl⟩:va=some ⟨vb,0,none⟩/\ zh=CM:=by simpa using Mu);have hki:=hG.out.2.cellAt i ia;have vN:=hG.out.2.frozenAt i;have hdrop:nd.kids.drop i=nd.kids[i]::nd.kids.drop (i+1):=Qb FK;(have aH:(nd.kids.take i).length=i:=by rw[Bc];omega);rw[de (by rw[Sa];omega),Sa,aH,mh,hdrop,Va,Zb]at hki;have hk:=rX.out nd.kids[i] (Ga _);have hst:=(World.ownsRow.drew hG.out.2).stored i (iW ((o.idxOf nd.kids[i].toNat:Nat):Int));have ax:Hid (w5.grownBy (wi.drew.setCell ⟨vb,i,none⟩ (iW ((o.idxOf nd.kids[i].toNat:Nat):Int))) (Value.slice (some ⟨vb,0,none⟩) nd.kids.length zh).ownBlock/\ (wi.drew.setCell ⟨vb,i,none⟩ (iW ((o.idxOf nd.kids[i].toNat:Nat):Int))).ownsRow (wR.heap.size+1) 3 1 (.slice (some ⟨vb,0,none⟩) nd.kids.length zh) nd.kids.length (((nd.kids.take (i+1)).map fun k=>iW ((o.idxOf k.toNat:Nat):Int))++(nd.kids.drop (i+1)).map iW)):=by{refine⟨World.grownBy.trans (b:=wi.drew) ⟨hG.out.1.os,hG.out.1.tape,hG.out.1.output,hG.out.1.size,hG.out.1.block⟩ hst.2,?_⟩;have:=hst.1;rw[hdrop,Va,og _ _ (by rw[Sa];omega),Sa,aH,mh,List.set_cons_zero]at this;rw[Ka FK,Lb,Ua];exact this};have hlk:=Az vP.key Tryz.underlying134 uz (aby.out.below hbi.drew ia) (nd.kids[i]:Int);generalize nd.kids[i]=kv at*;obtain⟨kn,rfl⟩:∃kn:Nat,kv=kn:=⟨kv.toNat,ia⟩;rw[Gb]at ax hk;rw[ir,if_pos hk.2]at hlk;clear hG Mu hst hdrop aH hk;go_upto_region 17 with(fail);refine Uq 11 (fun w':World=>w'=wi.drew) Ca rfl (fun Xb=>?_);refine xp 0 ?_;refine xp 2 ?_;refine xk 3 ?v3 ?y3 ?_;(case y3=>(intro w9 Pg;rw[show w9=wi.drew from Pg];go_simp;try with_reducible rfl));refine xp 4 ?_;refine xp 6 ?_;refine xk 1 ?v1 ?y1 ?_;(case y1=>(intro w9 Pg;rw[show w9=wi.drew from Pg];go_simp;try with_reducible rfl));refine xk 5 ?v5 ?y5 ?_;(case y5=>(intro w9 Pg;rw[show w9=wi.drew from Pg];go_simp;try with_reducible rfl));refine xp 7 ?_;refine xk 8 ?v8 ?y8 ?_;(case y8=>(intro w9 Pg;rw[show w9=wi.drew from Pg];go_simp;try with_reducible rfl));refine xk 9 ?v9 ?y9 ?_;(case y9=>(intro w9 Pg;rw[show w9=wi.drew from Pg];go_simp;try with_reducible rfl));refine xp 10 ?_;refine xl 11 (fun K hK=>?_);(have hq:_=wi.drew:=Xb;go_simp);refine hK.out _ _ ?_;clear hK K;(try simp only[Act.put,sA,sB,sC]);refine Ml Ca ?_ _;(go_wp2;go_roundw;(case rel=>exact⟨i+1,ia,by go_num,ax⟩);(case measure=>simp[intOf];omega))};{(obtain rfl:i=nd.kids.length:=ia);obtain⟨xs,hrow,_⟩:=hF.out.row;have rT:Below wR.heap.size wR wi:=eh.out.grown hG.out.1 ia (fun k hk=>by have:=(H5.out.lt k hk).1;omega);have zR:=da (Nd hrow rT);have xq:xs.length=o.length*4:=hrow.1;have s0:=zR.out.cellAt (j*4) ia;have s1:=zR.out.cellAt (j*4+1) ia;have s2:=zR.out.cellAt (j*4+2) ia;have s3:=zR.out.cellAt (j*4+3) ia;rw[Pa ia]at s0 s1 s2 s3;have f0:=zR.out.frozenAt (j*4);have f1:=zR.out.frozenAt (j*4+1);have f2:=zR.out.frozenAt (j*4+2);have f3:=zR.out.frozenAt (j*4+3);(have hNb:some wR.heap.size≠(Value.slice va nd.kids.length zh).ownBlock:=fun e=>by have:wR.heap.size+1<=wR.heap.size:=(H5.out.lt _ e.symm).1;omega);have k0:=hG.out.1.cell (N5.out.cell 0) hNb;have k1:=hG.out.1.cell (N5.out.cell 1) hNb;have k3:=hG.out.1.cell (N5.out.cell 3) hNb;have hq:=hG.out.2;rw[Jb,List.drop_length,Rf,Yc]at hq;have ax:=da (hF.out.put rT hlt ZU abD.out (vc:=.slice ca nd.Ja.length cc) (vk:=.slice va nd.kids.length zh) PZ.out (by rw[Sa,ti];exact zu hq ia));have hdi:wi.cell? ⟨w2.heap.size,0,none⟩=some (.slice (some ⟨w1.heap.size,0,none⟩) o.length o.length):=(rT.cell (p:=⟨w2.heap.size,0,none⟩) (Ae _ _ hdd)).trans hdd;(have aja:wR.heap.size<wi.heap.size:=ia);clear hrow hG rT hq;go_wp2;go_roundw;(case rel=>exact⟨j+1,ia,by go_num,ax⟩);case measure=>simp[intOf];omega})};{(obtain rfl:j=o.length:=ia);have HD:=da (hF.out.done (pj t o) (by unfold maxLen;omega) ZU (W.heap.size+1) ia ia (.slice (some ⟨w1.heap.size,0,none⟩) o.length o.length));have di:=da (((Ve.out.trans (bA.mono ia)).setCell (p:=⟨W.heap.size+1,0,none⟩) (by show W.heap.size<=W.heap.size+1;omega) (.slice (some ⟨w1.heap.size,0,none⟩) o.length o.length)));have hc1:=(bA.cell (p:=⟨W.heap.size+1,0,none⟩) (by show W.heap.size+1<w1.heap.size;omega)).trans abz;have hz1:=(bA.frozen (p:=⟨W.heap.size+1,0,none⟩) (by show W.heap.size+1<w1.heap.size;omega)).trans abA;have hcs:(wR.setCell ⟨W.heap.size+1,0,none⟩ (.slice (some ⟨w1.heap.size,0,none⟩) o.length o.length)).cell? ⟨W.heap.size+1,0,none⟩=some (.slice (some ⟨w1.heap.size,0,none⟩) o.length o.length):=by{have hblk:=((bA.block (W.heap.size+1) ia).trans R8.out:Bb wR (W.heap.size+1) 34 #[.slice none 0 0]);exact(Bb.set hblk 0 _).cell 0};clear bA;go_upto_region 22 with(fail);refine Qa (by simp[results,Tryz.results47,go_sem,hcs];try rfl) rfl ?_;exact⟨_,rfl,HD.out,di.out⟩})
end
mutual
def Fo.bk (w:World)(P:Nat->Prop):Fo->Value->Prop
 | .mk op nm c n ks,v=>∃(ao:Option Addr) (cap:Nat),v=.agg #[.int .i64 op,.string nm,.int .i64 c,.int .i64 n,.slice ao ks.length cap]/\
   yj op/\ yj c/\ yj n/\ nm.size<=maxLen/\ ks.length<=cap/\ cap<=maxLen/\ (ks≠[]->∃b off,ao=some ⟨b,off,none⟩/\ P b/\ Fo.Ko w P ks b off)
def Fo.Ko (w:World)(P:Nat->Prop):List Fo->Nat->Nat->Prop
 | [],_,_=>True
 | k::ks,b,off=>(∃v0 v1 v2 v3 v4,w.cell? ⟨b,off,none⟩=some v0/\ w.cell? ⟨b,off+1,none⟩=some v1/\ w.cell? ⟨b,off+2,none⟩=some v2/\
   w.cell? ⟨b,off+3,none⟩=some v3/\ w.cell? ⟨b,off+4,none⟩=some v4/\ Fo.bk w P k (.agg #[v0,v1,v2,v3,v4]))/\ Fo.Ko w P ks b (off+5)
end
def UN (P:Nat->Prop)(w w':World):Prop:=∀b,P b->w'.heap[b]? =w.heap[b]?
mutual
theorem Fo.bk.step {w w':World}{P Q:Nat->Prop}(hb:UN P w w')(hq:∀b,P b->Q b):∀(f:Fo) (v:Value),f.bk w P v->f.bk w' Q v
 | .mk op nm c n ks,v=>by{rintro⟨ao,cap,hv,h1,h2,h3,h4,h5,h6,h7⟩;refine⟨ao,cap,hv,h1,h2,h3,h4,h5,h6,fun hne=>?_⟩;obtain⟨b,off,ha,hlt,hL⟩:=h7 hne;exact⟨b,off,ha,hq b hlt,Fo.Ko.step hb hq hlt ks off hL⟩}
theorem Fo.Ko.step {w w':World}{P Q:Nat->Prop}{b:Nat}(hb:UN P w w')(hq:∀b,P b->Q b)(hlt:P b):∀(ks:List Fo) (off:Nat),Fo.Ko w P ks b off->Fo.Ko w' Q ks b off
 | [],_=>fun _=>trivial
 | k::ks,off=>by{rintro⟨⟨v0,v1,v2,v3,v4,c0,c1,c2,c3,c4,hk⟩,Qv⟩;(have hc:∀o,w'.cell? ⟨b,o,none⟩=w.cell? ⟨b,o,none⟩:=fun o=>World.cell?_of_block (a:=⟨b,o,none⟩) (hb b hlt));exact⟨⟨v0,v1,v2,v3,v4,(hc _).trans c0,(hc _).trans c1,(hc _).trans c2,(hc _).trans c3,(hc _).trans c4,Fo.bk.step hb hq k _ hk⟩,Fo.Ko.step hb hq hlt ks (off+5) Qv⟩}
end
mutual
theorem Fo.In.toP {w:World}{B:Nat}:∀(f:Fo) (v:Value),f.In w B v->f.bk w (· <B) v
 | .mk op nm c n ks,v=>by{rintro⟨ao,cap,hv,h1,h2,h3,h4,h5,h6,h7⟩;refine⟨ao,cap,hv,h1,h2,h3,h4,h5,h6,fun hne=>?_⟩;obtain⟨b,off,ha,hlt,hL⟩:=h7 hne;exact⟨b,off,ha,hlt,Fo.Qk.toP ks b off hL⟩}
theorem Fo.Qk.toP {w:World}{B:Nat}:∀(ks:List Fo) (b off:Nat),Fo.Qk w B ks b off->Fo.Ko w (· <B) ks b off
 | [],_,_=>fun _=>trivial
 | k::ks,b,off=>by{rintro⟨⟨v0,v1,v2,v3,v4,c0,c1,c2,c3,c4,hk⟩,Qv⟩;exact⟨⟨v0,v1,v2,v3,v4,c0,c1,c2,c3,c4,Fo.In.toP k _ hk⟩,Fo.Qk.toP ks b (off+5) Qv⟩}
end
mutual
theorem Fo.bk.back {w:World}{P:Nat->Prop}{B:Nat}(hP:∀b,P b->b<B):∀(f:Fo) (v:Value),f.bk w P v->f.In w B v
 | .mk op nm c n ks,v=>by{rintro⟨ao,cap,hv,h1,h2,h3,h4,h5,h6,h7⟩;refine⟨ao,cap,hv,h1,h2,h3,h4,h5,h6,fun hne=>?_⟩;obtain⟨b,off,ha,hlt,hL⟩:=h7 hne;exact⟨b,off,ha,hP b hlt,Fo.Ko.back hP ks b off hL⟩}
theorem Fo.Ko.back {w:World}{P:Nat->Prop}{B:Nat}(hP:∀b,P b->b<B):∀(ks:List Fo) (b off:Nat),Fo.Ko w P ks b off->Fo.Qk w B ks b off
 | [],_,_=>fun _=>trivial
 | k::ks,b,off=>by{rintro⟨⟨v0,v1,v2,v3,v4,c0,c1,c2,c3,c4,hk⟩,Qv⟩;exact⟨⟨v0,v1,v2,v3,v4,c0,c1,c2,c3,c4,Fo.bk.back hP k _ hk⟩,Fo.Ko.back hP ks b (off+5) Qv⟩}
end
theorem Fo.Ko.get {w:World}{P:Nat->Prop}{b:Nat}:∀(ks:List Fo) (off i:Nat) (hi:i<ks.length),Fo.Ko w P ks b off->
  ∃(ao:Option Addr) (cap:Nat),w.cell? ⟨b,off+i*5,none⟩=some (.int .i64 ks[i].op)/\ w.cell? ⟨b,off+i*5+1,none⟩=some (.string ks[i].name)/\
   w.cell? ⟨b,off+i*5+2,none⟩=some (.int .i64 ks[i].cmp)/\ w.cell? ⟨b,off+i*5+3,none⟩=some (.int .i64 ks[i].n)/\
   w.cell? ⟨b,off+i*5+4,none⟩=some (.slice ao ks[i].kids.length cap)/\
   ks[i].bk w P (.agg #[.int .i64 ks[i].op,.string ks[i].name,.int .i64 ks[i].cmp,.int .i64 ks[i].n,.slice ao ks[i].kids.length cap])
 | k::ks,off,0,_=>by{rintro⟨⟨v0,v1,v2,v3,v4,c0,c1,c2,c3,c4,hk⟩,_⟩;obtain⟨op,nm,c,n,kk⟩:=k;have hk':=hk;obtain⟨ao,cap,e,_⟩:=hk;simp only[Value.agg.injEq,Array.mk.injEq,List.cons.injEq,and_true]at e;obtain⟨rfl,rfl,rfl,rfl,rfl⟩:=e;simp only[Se,Ag];exact⟨ao,cap,c0,c1,c2,c3,c4,hk'⟩}
 | k::ks,off,i+1,hi=>by{rintro⟨_,Qv⟩;have:=Fo.Ko.get ks (off+5) i (by simpa using hi) Qv;simpa[Nat.add_mul,Nat.add_assoc,Nat.add_comm,Nat.add_left_comm]using this}
structure Ip where
 f:Fo
 ao:Option Addr
 cap:Nat
def Ip.cells (x:Ip):List Value:=[.int .i64 x.f.op,.string x.f.name,.int .i64 x.f.cmp,.int .i64 x.f.n,.slice x.ao x.f.kids.length x.cap]
def Ip.Ok (W:World)(P:Nat->Prop)(x:Ip):Prop:=x.f.bk W P (.agg x.cells.toArray)
theorem Ip.Ok.step {w w':World}{P Q:Nat->Prop}(hb:UN P w w')(hq:∀b,P b->Q b){x:Ip}(h:x.Ok w P):x.Ok w' Q:=Fo.bk.step hb hq _ _ h
theorem nw {W:World}{g:Nat}{P:Nat->Prop}:∀(xs:List Ip) (off:Nat),(∀i (hi:i<xs.length),∀j,j<5->W.cell? ⟨g,off+i*5+j,none⟩=xs[i].cells[j]?)->(∀x∈xs,x.Ok W P)->Fo.Ko W P (xs.map (·.f)) g off
 | [],_,_,_=>trivial
 | x::xs,off,hc,hx=>by{have h0:=hc 0 la;simp only[Se,Ag,Ob]at h0;refine⟨⟨_,_,_,_,_,h0 0 ia,h0 1 ia,h0 2 ia,h0 3 ia,h0 4 ia,hx x (Na ..)⟩,nw xs (off+5) (fun i hi j hj=>?_) (fun y hy=>hx y (La _ hy))⟩;have:=hc (i+1) (by simpa using hi) j hj;rw[Ic]at this;rw[<-this];congr 2;omega}
theorem cK :∀(xs:List Ip) (i j:Nat) (hi:i<xs.length),j<5->(xs.flatMap Ip.cells)[i*5+j]? =xs[i].cells[j]?
 | x::xs,0,j,_,hj=>by{rw[jc,zf (by show _<5;omega)];simp}
 | x::xs,i+1,j,hi,hj=>by{rw[jc,de (by show 5<=_;omega),show(i+1)*5+j-x.cells.length=i*5+j by show _-5=_;omega,cK xs i j (by simpa using hi) hj];simp}
theorem XN {W:World}{base:Nat}{v:Value}{xs:List Ip}(h:W.ownsRow base 24 5 v xs.length (xs.flatMap Ip.cells)){P:Nat->Prop}(hP:∀g,v.ownBlock=some g->P g)(hx:∀x∈xs,x.Ok W P){op c n:Int}{nm:ByteArray}
  (h1:yj op) (h2:yj c) (h3:yj n) (h4:nm.size<=maxLen):(Fo.mk op nm c n (xs.map (·.f))).bk W P (.agg #[.int .i64 op,.string nm,.int .i64 c,.int .i64 n,v]):=by
 rcases h.2 with⟨rfl,h0⟩ | ⟨g,cap,cur,rfl,_,hg,q1,q2,q3,q4⟩
 {have:xs=[]:=List.length_eq_zero_iff.1 h0;subst this;exact⟨none,0,rfl,h1,h2,h3,h4,xb _,xb _,fun e=>absurd rfl e⟩}
 {refine⟨some ⟨g,0,none⟩,cap,by rw[Sa],h1,h2,h3,h4,by rw[Sa];exact q1,q2,fun _=>⟨g,0,rfl,hP g rfl,nw xs 0 (fun i hi j hj=>?_) hx⟩⟩;rw[dc,h.cellAt _ ia];exact cK xs i j hi hj}
theorem Fo.bk.shape {w:World}{P:Nat->Prop}{f:Fo}{v:Value}(h:f.bk w P v):∃(ao:Option Addr) (cap:Nat),v=.agg #[.int .i64 f.op,.string f.name,.int .i64 f.cmp,.int .i64 f.n,.slice ao f.kids.length cap]/\ f.kids.length<=cap/\ cap<=maxLen/\ yj f.op/\ yj f.cmp/\ yj f.n/\ f.name.size<=maxLen/\
  (f.kids≠[]->∃b off,ao=some ⟨b,off,none⟩/\ P b/\ Fo.Ko w P f.kids b off):=by
 obtain⟨op,nm,c,n,ks⟩:=f;obtain⟨ao,cap,rfl,h1,h2,h3,h4,h5,h6,h7⟩:=h;exact⟨ao,cap,rfl,h5,h6,h1,h2,h3,h4,h7⟩
end Go.Proofs.YtejbgoigkefnfaaGreatDoor
