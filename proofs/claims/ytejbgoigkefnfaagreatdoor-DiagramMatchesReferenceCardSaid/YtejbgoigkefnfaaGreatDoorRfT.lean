/- The walk of (*table).inner of pandectref11. -/
import Derived.Test.YtejbgoigkefnfaaGreatDoorAl
import Derived.Test.YtejbgoigkefnfaaGreatDoorDgNt
set_option maxRecDepth 100000
set_option maxHeartbeats 4000000
namespace Go.Proofs.YtejbgoigkefnfaaGreatDoor
open Go.RowKit
structure LD (T : TypeId) (W : World) (H K : Nat) (S : List Nat) (t : List Dn) : Prop where
 ge:H<=K
 eA:K∈S
 mem:∃(v:Value) (xs:List Jh),Bb W K T #[v]/\ W.ownsRow H 56 4 v xs.length (xs.flatMap Jh.cells)/\ xs.map (·.n)=t/\ ∀x∈xs,x.Ok W H S
abbrev Hi (W:World)(H K:Nat)(S:List Nat)(t:List Dn):Prop:=LD 105 W H K S t
theorem gz {W:World}{H K:Nat}{S:List Nat}(hK:H<=K)(hS:K∈S)(i:Nat)(u:Value):ld H S W (W.setCell ⟨K,i,none⟩ u):=
 ld.Ej (Cg W K i u) fun b e=>by cases e;exact⟨hK,.inl hS⟩
theorem oK {W:World}{H K T:Nat}{v:Value}{n:Nat}{l:List Value}{cs:Array Value}(h2:W.ownsRow H 56 4 v n l)(h1:Bb W K T cs)(hT:T≠56):v.ownBlock=none\/v.ownBlock≠some K:=by
 rcases h2.2 with⟨rfl,_⟩ | ⟨g,cap,cur,rfl,_,hg,_⟩
 {exact .inl rfl}
 {right;intro e;(have:g=K:=by simpa[Value.ownBlock]using e);subst this;have h1:W.heap[g]? =_:=h1;rw[hg]at h1;(cases h1);exact hT rfl}
theorem LD.below {T:TypeId}{W W':World}{H K:Nat}{S:List Nat}{t:List Dn}(h:LD T W H K S t){n:Nat}(hb:Below n W W')(hn:W.heap.size<=n):LD T W' H K S t:=by
 obtain⟨hge,hS,v,xs,h1,h2,h3,h4⟩:=h;exact⟨hge,hS,v,xs,h1.below (hb.mono hn),Nd h2 (hb.mono hn),h3,fun x hx=>(h4 x hx).step (ld.Vb hb hn)⟩
theorem LD.lt {T:TypeId}{W:World}{H K:Nat}{S:List Nat}{t:List Dn}(h:LD T W H K S t):K<W.heap.size:=by obtain⟨_,_,v,xs,h1,_⟩:=h;exact h1.lt
theorem Hx {T:TypeId}(hT:T≠56){W W4 w1:World}{H K:Nat}{S:List Nat}{v:Value}{xs:List Jh}(hge:H<=K)(hS:K∈S)(hb:Bb W K T #[v])(hrow:W.ownsRow H 56 4 v xs.length (xs.flatMap Jh.cells))(oB:∀x∈xs,x.Ok W H S){x:Jh}(hx:x.Ok W H S)(h4:Below W.heap.size W W4){gg cap:Nat}
  (hown:w1.ownsRow H 56 4 (.slice (some ⟨gg,0,none⟩) (xs.length+1) cap) (xs.length+1) (xs.flatMap Jh.cells++x.cells)) (hg:W4.grownBy w1 v.ownBlock):
  LD T (w1.setCell ⟨K,0,none⟩ (.slice (some ⟨gg,0,none⟩) (xs.length+1) cap)) H K S (xs.map (·.n)++[x.n])/\ ld H [K] W (w1.setCell ⟨K,0,none⟩ (.slice (some ⟨gg,0,none⟩) (xs.length+1) cap))/\ Bb (w1.setCell ⟨K,0,none⟩ (.slice (some ⟨gg,0,none⟩) (xs.length+1) cap)) K T #[.slice (some ⟨gg,0,none⟩) (xs.length+1) cap]/\ Bb w1 K T #[v]:=by
 have hb4:=hb.below h4;have hr4:=Nd hrow h4
 have s3:ld H [K] W4 w1:=ld.Ej hg fun b e=>by{obtain⟨h1,h2⟩:=Jy hr4 b e;exact⟨h1,.inr h2⟩}
 have fe:Bb w1 K T #[v]:=by{(refine Bb.grown hb4 hg fun e=>?_);(rcases oK hr4 hb4 hT with h | h);{rw[h]at e;cases e};{exact h e.symm}}
 have WH:ld H [K] W (w1.setCell ⟨K,0,none⟩ (.slice (some ⟨gg,0,none⟩) (xs.length+1) cap)):=((ld.Vb h4 (ja _)).trans s3).trans (gz hge la 0 _);refine⟨⟨hge,hS,_,xs++[x],fe.set 0 _,?_,by rw[Lb];rfl,?_⟩,WH,fe.set 0 _,fe⟩
 {rw[Ea,Pc];have:=hown.kept (Cg w1 K 0 (.slice (some ⟨gg,0,none⟩) (xs.length+1) cap)) (oK hown fe hT);simpa using this}
 {intro y hy;(rcases List.mem_append.1 hy with hy | hy);{exact(oB y hy).step (WH.more (by simpa using hS))};{rw[Nb]at hy;rw[hy];exact hx.step (WH.more (by simpa using hS))}}
def Js (X:List Nat)(K:Nat)(W W':World):Prop:=∀b,b<W.heap.size->b∉X->(∀v,W.cell? ⟨K,0,none⟩=some v->v.ownBlock≠some b)->W'.heap[b]? =W.heap[b]? /\ ∀v,W'.cell? ⟨K,0,none⟩=some v->v.ownBlock≠some b
theorem Js.Vb {X:List Nat}{K:Nat}{W W':World}(h:Below W.heap.size W W')(hK:K<W.heap.size):Js X K W W':=fun b hb _ hr=>⟨h.block b hb,fun v hv=>hr v ((h.cell (p:=⟨K,0,none⟩) hK).symm.trans hv)⟩
theorem Js.trans {X:List Nat}{K:Nat}{W W' GU:World}(h:Js X K W W')(k:Js X K W' GU)(hs:W.heap.size<=W'.heap.size):Js X K W GU:=fun b hb hX hr=>by
 obtain⟨h1,h2⟩:=h b hb hX hr;obtain⟨k1,k2⟩:=k b (Wb hb hs) hX h2;exact⟨k1.trans h1,k2⟩
theorem Js.more {X X':List Nat}{K:Nat}{W W':World}(h:Js X K W W')(hX:∀b∈X,b∈X'):Js X' K W W':=fun b hb hx hr=>h b hb (fun hm=>hx (hX b hm)) hr
theorem aU {T:TypeId}{W W4 w1:World}{K gg n c:Nat}{v:Value}(hb:Bb W K T #[v])(h4:Below W.heap.size W W4)(hg:W4.grownBy w1 v.ownBlock)(hat:v.ownBlock=some gg\/W.heap.size<=gg)(hk:Bb w1 K T #[v]):Js [K] K W (w1.setCell ⟨K,0,none⟩ (.slice (some ⟨gg,0,none⟩) n c)):=fun b En hX hr=>by
 have hne:b≠K:=fun e=>hX (by rw[e];simp)
 have hv:=hr v (hb.cell 0);refine⟨?_,fun u hu=>?_⟩
 {rw[Gc _ _ _ b hne,hg.block b (Wb En h4.size) (fun e=>hv e.symm),h4.block b En]}
 {have e:(w1.setCell ⟨K,0,none⟩ (.slice (some ⟨gg,0,none⟩) n c)).cell? ⟨K,0,none⟩=some (.slice (some ⟨gg,0,none⟩) n c):=(hk.set 0 _).cell 0;rw[e]at hu;(cases hu);intro e2;(have e2:gg=b:=by simpa[Value.ownBlock]using e2);subst e2;(rcases hat with h | h);{exact hv h};{omega}}
theorem bU {t:List Dn}{n:Dn}{j:Nat}(hj:j<t.length)(hno:∀i (h:i<t.length),i<j->t[i]≠n)(he:t[j]=n):Md t n=(t,j):=by
 unfold Md;rw[if_pos (he▸Ga hj)];congr 1
 unfold List.idxOf;rw[List.findIdx_eq hj];exact⟨by simp[he],fun i hi=>by simpa using hno i ia hi⟩
theorem GQ {t:List Dn}{n:Dn}(hno:∀i (h:i<t.length),t[i]≠n):Md t n=(t++[n],t.length):=by
 unfold Md;rw[Aa fun h=>by obtain⟨i,hi,e⟩:=zb h;exact hno i hi e]
theorem Yy (H K:Nat)(S:List Nat)(t:List Dn)(n:Dn)(vc vk:Value)(W:World)(hm:Hi W H K S t)(hc:Me W H S n.Ja vc)(hk:Me W H S n.kids vk)(hl:t.length<=900000):
  Calls Tryz.prog 114 #[.pointer (some ⟨K,0,none⟩),.agg #[.int .i64 n.fact,vc,vk,.bool n.leaf]] W fun e W'=>e=.returned (.int .i64 ((Md t n).2:Nat))/\ Hi W' H K S (Md t n).1/\ ld H [K] W W'/\ Js [K] K W W':=by
 obtain⟨i0,GM,IM,JM,KM⟩:=info_parts Qo;obtain⟨ac,cc,rfl,c1,c2,_⟩:=Xa.shape hc.1;obtain⟨ak,ck,rfl,k1,k2,_⟩:=Xa.shape hk.1;have HM:=da hm;obtain⟨hge,hS,v,xs,h1,h2,h3,h4⟩:=hm;have hlt:=h1.lt;have xq:xs.length=t.length:=by rw[<-h3,Sa]
 have Ff:Below W.heap.size W (W.alloc (.cells #[.int .i64 n.fact,.slice ac n.Ja.length cc,.slice ak n.kids.length ck,.bool n.leaf] 56)):=(za _ _).alloc (ja _) _;have Gf:Hid (Bb (W.alloc (.cells #[.int .i64 n.fact,.slice ac n.Ja.length cc,.slice ak n.kids.length ck,.bool n.leaf] 56)) W.heap.size 56 #[.int .i64 n.fact,.slice ac n.Ja.length cc,.slice ak n.kids.length ck,.bool n.leaf]):=Bb.new _ _ _;have Ve:=da Ff;have HC:=da hc;have HK:=da hk;have mu:=da (fun W4 (h:Below W.heap.size W W4) gg cap w1 ho hg=>Hx (T:=105) pa (x:=⟨n,.slice ac n.Ja.length cc,.slice ak n.kids.length ck⟩) hge hS h1 h2 h4 ⟨hc,hk⟩ h (gg:=gg) (cap:=cap) (w1:=w1) ho hg);rw[h3]at mu;obtain⟨va,zh,rR⟩:=Wd h2;subst rR;have Ek:=da h2;have Zv:=da h1;have cL:=da h4;have HXN:=da h3;obtain⟨G,hG⟩:∃G,Md t n=G:=⟨_,rfl⟩;rw[hG];have HG:=da hG;have HXL:=da xq;rw[xq]at mu Ek Zv;have hHW:H<=W.heap.size:=by omega
 clear h1 h2 h3 h4 hc hk Ff hG xq;have x0:=(Zv.out.alloc (.cells #[.int .i64 n.fact,.slice ac n.Ja.length cc,.slice ak n.kids.length ck,.bool n.leaf] 56)).cell 0;go_enter Tryz.func114,Tryz.ntmps114;go_upto_region 1 with(fail);obtain⟨W1,hW1⟩:∃W1,(W.alloc (.cells #[.int .i64 n.fact,.slice ac n.Ja.length cc,.slice ak n.kids.length ck,.bool n.leaf] 56))=W1:=⟨_,rfl⟩;rw[hW1]at Ve Gf x0⊢;have hs1:W.heap.size<W1.heap.size:=Gf.out.lt;clear hW1;go_wp2
 go_loopw [5] (fun iv wr=>∃j:Nat,j<=t.length/\ iv=.int .i64 j/\ Hid (Below W1.heap.size W1 wr)/\ Hid (∀i (h:i<t.length),i<j->t[i]≠n)) (fun iv _=>t.length-(intOf iv).toNat)
 case atStart=>exact⟨0,ia,rfl,za _ _,fun i h hj=>absurd hj (Ib i)⟩
 case round=>
  obtain⟨j,hj,rfl,hb,hno⟩:=hrel;have YG:Hid (Below W.heap.size W wr):=Ve.out.trans (hb.out.mono Ve.out.size);clear x0;have x0:=(Zv.out.below YG.out).cell 0;by_cases hlt2:j<t.length
  ·obtain⟨g,gc,e,KA,hg2⟩:=Ek.out.form ia
   cases e
   have hjx:j<xs.length:=by rw[HXL.out];exact hlt2
   have fB:xs[j].n=t[j]:=by simp[<-HXN.out]
   have hc0:∀w',Below W.heap.size W w'->∀i,i<4->w'.cell? ⟨g,j*4+i,none⟩=xs[j].cells[i]? :=fun w' hb' i hi=>by{have q:=(Nd Ek.out hb').cellAt (j*4+i) ia;rw[q,rl xs j i hjx hi]}
   have IQ:=cL.out xs[j] (Ga _);obtain⟨⟨m,mvc,mvk⟩,pV⟩:∃y:Jh,xs[j]=y:=⟨_,rfl⟩;rw[pV]at fB hc0 IQ;have Y9:Hid (m=t[j]):=fB;clear fB
   obtain⟨mc,El,rfl⟩:∃mc El,mvc=.slice mc m.Ja.length El:=by{obtain⟨x,y,e,_⟩:=Xa.shape IQ.Ja.1;exact⟨x,y,e⟩}
   obtain⟨mk,Tl,rfl⟩:∃mk Tl,mvk=.slice mk m.kids.length Tl:=by{obtain⟨x,y,e,_⟩:=Xa.shape IQ.kids.1;exact⟨x,y,e⟩}
   have cU:=da IQ
   have Og:Hid (∀w',Hid (Below W1.heap.size W1 w')->(w'.cell? ⟨K,0,none⟩=some (.slice (some ⟨g,0,none⟩) t.length zh)/\ w'.cell? ⟨W.heap.size,0,none⟩=some (.int .i64 n.fact)/\ w'.cell? ⟨W.heap.size,1,none⟩=some (.slice ac n.Ja.length cc)/\ w'.cell? ⟨W.heap.size,2,none⟩=some (.slice ak n.kids.length ck)/\ w'.cell? ⟨W.heap.size,3,none⟩=some (.bool n.leaf)/\ w'.cell? ⟨g,j*4,none⟩=some (.int .i64 m.fact)/\ w'.cell? ⟨g,j*4+1,none⟩=some (.slice mc m.Ja.length El)/\ w'.cell? ⟨g,j*4+2,none⟩=some (.slice mk m.kids.length Tl)/\ w'.cell? ⟨g,j*4+3,none⟩=some (.bool m.leaf))/\ Hid (Below W1.heap.size W1 w')):=fun w' hb'=>by{have Zd:=Ve.out.trans (hb'.out.mono Ve.out.size);have k1:=Gf.out.below hb'.out;have k2:=Zv.out.below Zd;exact⟨⟨k2.cell 0,k1.cell 0,k1.cell 1,k1.cell 2,k1.cell 3,hc0 w' Zd 0 ia,hc0 w' Zd 1 ia,hc0 w' Zd 2 ia,hc0 w' Zd 3 ia⟩,hb'⟩}
   obtain⟨bl,En⟩:∃bl,decide (m=n)=bl:=⟨_,rfl⟩;have Z9:=da En
   have vM:Hid (∀w',Hid (Below W1.heap.size W1 w')->Calls Tryz.prog 77 #[.agg #[.int .i64 m.fact,.slice mc m.Ja.length El,.slice mk m.kids.length Tl,.bool m.leaf],.agg #[.int .i64 n.fact,.slice ac n.Ja.length cc,.slice ak n.kids.length ck,.bool n.leaf]] w' fun e w''=>e=.returned (.bool bl)/\ Hid (Below W1.heap.size W1 w'')):=fun w' hb'=>by{have Zd:=Ve.out.trans (hb'.out.mono Ve.out.size);(have up:∀ {l:List Int} {u:Value},IntsIn W W.heap.size l u->IntsIn w' W.heap.size l u:=fun h=>IntsIn.below Zd h);refine(Up m n _ _ _ _ w' W.heap.size Zd.size (up cU.out.Ja.1) (up cU.out.kids.1) (up HC.out.1) (up HK.out.1)).mono ?_;rintro e w'' ⟨rfl,h⟩;exact⟨by rw[En],hb'.out.trans (h.mono hb'.out.size)⟩}
   have Yi:Hid (Below W1.heap.size W1 wr.drew):=hb.out.drew;have cR:(j:Int)<(t.length:Int):=by omega
   clear hc0 IQ pV En;go_upto_region 4 with(fail)
   go_region_held3 (fun w'=>(w'.cell? ⟨K,0,none⟩=some (.slice (some ⟨g,0,none⟩) t.length zh)/\ w'.cell? ⟨W.heap.size,0,none⟩=some (.int .i64 n.fact)/\ w'.cell? ⟨W.heap.size,1,none⟩=some (.slice ac n.Ja.length cc)/\ w'.cell? ⟨W.heap.size,2,none⟩=some (.slice ak n.kids.length ck)/\ w'.cell? ⟨W.heap.size,3,none⟩=some (.bool n.leaf)/\ w'.cell? ⟨g,j*4,none⟩=some (.int .i64 m.fact)/\ w'.cell? ⟨g,j*4+1,none⟩=some (.slice mc m.Ja.length El)/\ w'.cell? ⟨g,j*4+2,none⟩=some (.slice mk m.kids.length Tl)/\ w'.cell? ⟨g,j*4+3,none⟩=some (.bool m.leaf))/\ Hid (Below W1.heap.size W1 w'))
    (exact Og.out _ Da)
    ((go_at_call 77;refine(vM.out _ Da).mono ?_;rintro e w5 ⟨rfl,Jf⟩))
   clear Og vM Yi x0;cases bl with| true=>{(have R6:m=n:=by simpa using Z9.out);have HA:=da (HG.out.symm.trans (bU hlt2 hno.out (Y9.out.symm.trans R6)));have jE:=Ve.out.trans (Jf.out.mono Ve.out.size);have GX:=da (HM.out.below jE (ja _));have yU:Hid (ld H [K] W w5):=ld.Vb jE (ja _);have Uu:Hid (Js [K] K W w5):=Js.Vb jE hlt;clear R6 hno cU Y9 Z9;go_wp2;go_ret;rw[HA.out];exact⟨rfl,GX.out,yU.out,Uu.out⟩}| false=>{(have R6:¬m=n:=by simpa using Z9.out);(have HN:Hid (∀i (h:i<t.length),i<j+1->t[i]≠n):=fun i h hi=>by{by_cases e:i=j;{subst e;rw[<-Y9.out];exact R6};{exact hno.out i h ia}});clear R6 hno cU Y9 Z9;go_wp2;go_roundw;(case rel=>exact⟨j+1,ia,by go_num,Jf,HN⟩);case measure=>simp[intOf];omega}
  ·have HA:=da (HG.out.symm.trans (GQ (fun i h=>hno.out i h ia)))
   have n0:=(Gf.out.below hb.out).cell 0;have n1:=(Gf.out.below hb.out).cell 1;have n2:=(Gf.out.below hb.out).cell 2;have n3:=(Gf.out.below hb.out).cell 3;have hKl:K<wr.heap.size:=(Zv.out.below YG.out).lt;have hzl:W.heap.size<wr.heap.size:=by have:=hb.out.size;omega
   have D9:=da (Nd Ek.out YG.out);have KU:=da (mu.out ((wr.alloc (.cells #[.int .i64 n.fact,.slice ac n.Ja.length cc,.slice ak n.kids.length ck,.bool n.leaf] 56)).drew) ((YG.out.alloc YG.out.size _).drew));clear mu hno HG;go_upto_region 6 with(fail)
   go_region_law (refine step_append_lies _ Ha _ _ _ Ha H 56 i0 _ 4 64 Tryz.underlying32 GM IM JM KM rfl ia (.slice va t.length zh) t.length _ Ha ((D9.out.alloc _).drew) ⟨wr.heap.size,0,none⟩ 1 1 (#[.int .i64 n.fact,.slice ac n.Ja.length cc,.slice ak n.kids.length ck,.bool n.leaf]).toList Ha Ha (Mf (cs:=#[.int .i64 n.fact,.slice ac n.Ja.length cc,.slice ak n.kids.length ck,.bool n.leaf]) (t:=56) (fr:=(0,0)) (heap_alloc_new wr _)) (by simp[Value.oneCell']) ia (by unfold maxLen;omega) ia (by simp;omega) (wr.heap.size+1) la ?_;intro gg cap w1 Tq hgrow hat DS;obtain⟨k1,k2,k3,k4⟩:=KU.out gg cap w1 Tq hgrow;have s0:=k4.cell 0;have z0:=k4.frozen 0)
   all_goals
    have K1:=da k1;have K2:=da k2;have KP:=da (aU (n:=t.length+1) (c:=cap) Zv.out ((YG.out.alloc YG.out.size _).drew) hgrow (hat.imp id (fun e=>by omega)) k4);have c0:=k3.cell 0;clear k1 k2 k3 k4 s0 z0 Tq hgrow hat;generalize w1.setCell ⟨K,0,none⟩ (.slice (some ⟨gg,0,none⟩) (t.length+1) cap)=w9 at*
    have hwr:IntKind.i64.wrap (((t.length+1:Nat):Int)-1)=(t.length:Int):=by rw[Bd _ ia];omega
    go_wp2;go_ret;rw[HA.out];exact⟨ke ia,K1.out,K2.out,KP.out⟩
structure mM (w W : World) (nb : Nat) (i : Int) (cs ks : List Int) (vc vk : Value) : Prop where
 blk:Bb W nb 56 #[.int .i64 i,vc,vk,.bool false]
 Ja:W.ownsRow w.heap.size 3 1 vc cs.length (cs.map iW)
 kids:W.ownsRow w.heap.size 3 1 vk ks.length (ks.map iW)
 below:Below w.heap.size w W
 jL:∀g,vk.ownBlock=some g->vc.ownBlock≠some g
 ge:w.heap.size<=nb
theorem Vz {W:World}{base nb n:Nat}{v:Value}{l:List Value}{cs:Array Value}(hr:W.ownsRow base 3 1 v n l)(hb:Bb W nb 56 cs):v.ownBlock=none\/v.ownBlock≠some nb:=by
 rcases hr.2 with⟨rfl,_⟩ | ⟨g',c,cur,rfl,_,Xr,_⟩
 {exact .inl rfl}
 {right;intro e;(have:g'=nb:=by simpa[Value.ownBlock]using e);exact VC hb Xr this.symm}
theorem pK {W:World}{base nb n:Nat}{v:Value}{l:List Value}{cs:Array Value}(hr:W.ownsRow base 3 1 v n l)(hb:Bb W nb 56 cs):some nb≠v.ownBlock:=fun e=>by
 rcases Vz hr hb with h | h
 {rw[h]at e;cases e}
 {exact h e.symm}
section
variable {w W Wc w1 : World} {nb : Nat} {i : Int} {cs ks : List Int} {vc vk : Value} {s : Int} {g cap : Nat}
theorem mM.step (h:mM w W nb i cs ks vc vk)(hb:Below W.heap.size W Wc):mM w Wc nb i cs ks vc vk:=
 ⟨h.blk.below hb,Nd h.Ja hb,Nd h.kids hb,h.below.trans (hb.mono h.below.size),h.jL,h.ge⟩
theorem mM.cut (h:mM w W nb i cs ks vc vk)(r2:w1.ownsRow w.heap.size 3 1 (.slice (some ⟨g,0,none⟩) (cs.length+1) cap) (cs++[s]).length ((cs++[s]).map iW))(r3:W.grownBy w1 vc.ownBlock)(r4:vc.ownBlock=some g\/g=W.heap.size):
  mM w (w1.setCell ⟨nb,1,none⟩ (.slice (some ⟨g,0,none⟩) (cs.length+1) cap)) nb i (cs++[s]) ks (.slice (some ⟨g,0,none⟩) (cs.length+1) cap) vk/\ Bb w1 nb 56 #[.int .i64 i,vc,vk,.bool false]:=by
 have Ff:Bb w1 nb 56 #[.int .i64 i,vc,vk,.bool false]:=Bb.grown h.blk r3 (pK h.Ja h.blk)
 have hk1:w1.ownsRow w.heap.size 3 1 vk ks.length (ks.map iW):=h.kids.kept r3 (by
  rcases h.kids.2 with⟨rfl,_⟩ | ⟨g',c,cur,rfl,_⟩
  {exact .inl rfl}
  ·right
   intro e
   exact h.jL g' rfl e.symm)
 have hkg:∀b,vk.ownBlock=some b->b<W.heap.size:=fun b e=>(h.kids.lt b e).2
 have k1:=Cg w1 nb 1 (.slice (some ⟨g,0,none⟩) (cs.length+1) cap);refine⟨⟨Ff.set 1 _,r2.kept k1 (Vz r2 Ff),hk1.kept k1 (Vz hk1 Ff),(h.below.grown r3 h.below.size (fun b e=>(Ie h.Ja b e).1)).setCell (p:=⟨nb,1,none⟩) h.ge _,fun b e e'=>?_,h.ge⟩,Ff⟩;have iZ:g=b:=by simpa[Value.ownBlock]using e'
 subst iZ;rcases r4 with r4 | r4
 {exact h.jL g e r4}
 {have:=hkg g e;omega}
theorem mM.O5 (h:mM w W nb i cs ks vc vk)(r2:w1.ownsRow w.heap.size 3 1 (.slice (some ⟨g,0,none⟩) (ks.length+1) cap) (ks++[s]).length ((ks++[s]).map iW))(r3:W.grownBy w1 vk.ownBlock)(r4:vk.ownBlock=some g\/g=W.heap.size):
  mM w (w1.setCell ⟨nb,2,none⟩ (.slice (some ⟨g,0,none⟩) (ks.length+1) cap)) nb i cs (ks++[s]) vc (.slice (some ⟨g,0,none⟩) (ks.length+1) cap)/\ Bb w1 nb 56 #[.int .i64 i,vc,vk,.bool false]:=by
 have Ff:Bb w1 nb 56 #[.int .i64 i,vc,vk,.bool false]:=Bb.grown h.blk r3 (pK h.kids h.blk)
 have hk1:w1.ownsRow w.heap.size 3 1 vc cs.length (cs.map iW):=h.Ja.kept r3 (by
  rcases h.Ja.2 with⟨rfl,_⟩ | ⟨g',c,cur,rfl,_⟩
  {exact .inl rfl}
  ·right
   intro e
   exact h.jL g' e.symm rfl)
 have hkg:∀b,vc.ownBlock=some b->b<W.heap.size:=fun b e=>(h.Ja.lt b e).2
 have k1:=Cg w1 nb 2 (.slice (some ⟨g,0,none⟩) (ks.length+1) cap);refine⟨⟨Ff.set 2 _,hk1.kept k1 (Vz hk1 Ff),r2.kept k1 (Vz r2 Ff),(h.below.grown r3 h.below.size (fun b e=>(Ie h.kids b e).1)).setCell (p:=⟨nb,2,none⟩) h.ge _,fun b e e'=>?_,h.ge⟩,Ff⟩;have iZ:g=b:=by simpa[Value.ownBlock]using e
 subst iZ;rcases r4 with r4 | r4
 {exact h.jL g r4 e'}
 {have:=hkg g e';omega}
end
theorem nM (W:World)(i k0:Int):mM W ((W.alloc (.cells #[.int .i64 k0] 3)).alloc (.cells #[.int .i64 i,.slice none 0 0,.slice (some ⟨W.heap.size,0,none⟩) 1 1,.bool false] 56)) (W.heap.size+1) i [] [k0] (.slice none 0 0) (.slice (some ⟨W.heap.size,0,none⟩) 1 1):=by
 refine⟨?_,ic _ _ _ _,⟨rfl,.inr ⟨W.heap.size,1,#[.int .i64 k0],rfl,ja _,?_,ja _,pa,rfl,rfl⟩⟩,((za _ _).alloc (ja _) _).alloc la _,fun g e e'=>(by cases e'),ia⟩
 {have q:=Bb.new (W.alloc (.cells #[.int .i64 k0] 3)) 56 #[.int .i64 i,.slice none 0 0,.slice (some ⟨W.heap.size,0,none⟩) 1 1,.bool false];rw[Ba]at q;exact q}
 {rw[Tb _ _ _ la];exact World.alloc_heap_new W _}
theorem dz (H K:Nat)(S:List Nat)(t:List Dn)(i:Nat)(Ce kids:List Int)(vs vk:Value)(W:World)(hm:Hi W H K S t)(PG:∀b∈S,b<W.heap.size)(hs:IntsIn W W.heap.size Ce vs)(hk:IntsIn W W.heap.size kids vk)(hl:t.length<=900000)(hne:kids≠[])(hlen:Ce.length=kids.length)(lk:kids.length<=900000)(h0:0<=kids.getD 0 0):
  Calls Tryz.prog 116 #[.pointer (some ⟨K,0,none⟩),.int .i64 i,vs,vk] W fun e W'=>e=.returned (.int .i64 ((Mc t i Ce kids).2:Nat))/\ Hi W' H K S (Mc t i Ce kids).1/\ ld H [K] W W'/\ Js [K] K W W':=by
 obtain⟨asl,cs0,rfl,s1,s2,_⟩:=Xa.shape hs;have hpos:0<kids.length:=List.length_pos_iff.2 hne;obtain⟨ak,ck,rfl,k1,k2,_⟩:=Xa.shape hk;obtain⟨kb,zv,hkk,hkb,S6⟩:=Xa.one hk 0 hpos;unfold maxLen at s2 k2;subst hkk;have hK:=hm.lt;have hge:=hm.ge;have hk0:kids.getD 0 0=kids[0]:=Eb _ _ _ hpos;obtain⟨F,hF⟩:∃F,F=Hh kids[0] (Ce.tail.zip kids.tail):=⟨_,rfl⟩;have hD:Mc t i Ce kids=if F.2=[]then(t,kids[0].toNat)else Md t ⟨i,F.1,kids[0]::F.2,false⟩:=by rw[hF];unfold Mc;rw[hk0]
 have GC:(Ce.zip kids).drop 1=Ce.tail.zip kids.tail:=by{cases kids with| nil=>exact absurd rfl hne| cons a l=>{cases Ce with| nil=>simp at hlen| cons b m=>rfl}}
 have CO:Hid ((F.1,kids[0]::F.2)=([]++(Hh kids[0] ((Ce.zip kids).drop 1)).1,([]++[kids[0]])++(Hh kids[0] ((Ce.zip kids).drop 1)).2)):=by{show _=_;rw[GC, <-hF];rfl}
 obtain⟨G,hG⟩:∃G,Mc t i Ce kids=G:=⟨_,rfl⟩;rw[hG]at hD⊢;rw[hk0]at h0;have HD:=da hD;have Bp:=da hs;have Gf:=da hk;have HM:=da hm;have acA:=da hlen;have hkc:W.cell? ⟨kb,zv,none⟩=some (.int .i64 kids[0]):=S6;clear hF hD GC hs hk hm hG hk0 S6 hne hlen;obtain⟨k0,hk0⟩:∃k0,kids[0]=k0:=⟨_,rfl⟩;rw[hk0]at CO HD hkc h0;clear hk0;have HI0:=da (nM W (i:Int) k0);go_enter Tryz.func116,Tryz.ntmps116;go_upto_region 2 with(fail);obtain⟨W2,gV⟩:∃W2,((W.alloc (.cells #[.int .i64 k0] 3)).alloc (.cells #[.int .i64 i,.slice none 0 0,.slice (some ⟨W.heap.size,0,none⟩) 1 1,.bool false] 56))=W2:=⟨_,rfl⟩;rw[gV]at HI0⊢;clear gV;go_wp2
 go_loopw [10] (fun iv wr=>∃(j:Nat) (cs pre:List Int) (a:Int) (vc aL:Value),1<=j/\ j<=kids.length/\ iv=.int .i64 j/\ Hid (mM W wr (W.heap.size+1) i cs (pre++[a]) vc aL)/\ cs.length<=j/\ pre.length<=j/\
  Hid ((F.1,k0::F.2)=(cs++(Hh a ((Ce.zip kids).drop j)).1,(pre++[a])++(Hh a ((Ce.zip kids).drop j)).2))) (fun iv _=>kids.length-(intOf iv).toNat)
 case atStart=>exact⟨1,[],[],k0,_,_,ia,ia,rfl,HI0,la,la,CO⟩
 case round=>
  obtain⟨j,cs,pre,a,vc,aL,WG,hj,rfl,Gn,hcl,FC,qR⟩:=hrel;clear HI0 CO;obtain⟨va,zh,tW⟩:=Wd Gn.out.Ja;obtain⟨gk,gc,DO,akc,akd⟩:=Gn.out.kids.form la
  have JB:wr.cell? ⟨gk,pre.length,none⟩=some (.int .i64 a):=by{have q:=Gn.out.kids;rw[DO]at q;have q2:=q.cellAt pre.length la;rw[q2];simp[iW]}
  rw[Ea,Hb]at DO;have n1:=Gn.out.blk.cell 1;have n2:=Gn.out.blk.cell 2;have z1:=Gn.out.blk.frozen 1;have z2:=Gn.out.blk.frozen 2;have V1:=Gn.out.blk.lt;have Zd:=Gn.out.below.size;subst tW DO;by_cases hlt:j<kids.length
  ·obtain⟨b,off,e,Rj,hcc⟩:=Xa.one Gf.out j hlt
   cases e
   have kY:=hcc;have FH:=(Gn.out.below.cell (p:=⟨kb,zv+j,none⟩) Rj).trans hcc;have uW:j<Ce.length:=by have:=acA.out;omega
   obtain⟨sb,so,e,LM,hsc⟩:=Xa.one Bp.out j uW;have vW:=(Gn.out.below.cell (p:=⟨sb,so+j,none⟩) LM).trans hsc;cases e
   have hz:j<(Ce.zip kids).length:=by rw[ah];omega
   have hdrop:(Ce.zip kids).drop j=(Ce[j],kids[j])::(Ce.zip kids).drop (j+1):=by{rw[Qb hz,List.getElem_zip]}
   have Zz:=qR.out;rw[hdrop,Hh]at Zz;generalize Ce[j]=sv at*
   generalize kids[j]=kv at*
   have JS:sb<wr.heap.size:=by omega
   have YH:kb<wr.heap.size:=by omega
   have hp1:IntKind.i64.wrap (((pre.length+1:Nat):Int)-1)=(pre.length:Int):=by rw[Bd _ ia];omega
   clear qR hdrop hz hcc;cases e:(kv !=a)with
   | false=>{(have YD:kv=a:=by simpa using e);rw[if_pos YD]at Zz;have yK:=da Zz;clear Zz YD;go_wp2;go_quiet(fail);go_wp2;go_roundw;(case rel=>exact⟨j+1,cs,pre,a,_,_,ia,ia,by go_num,Gn.out.step (World.Za _ _ _),ia,ia,yK⟩);case measure=>simp[intOf];omega}
   | true=>
    have YD:¬kv=a:=by simpa using e
    rw[Aa YD]at Zz;have yK:=da Zz;clear Zz YD;go_wp2
    go_quiet(fail)
    obtain⟨w6,Ht⟩:∃w6,wr.drewN nq=w6:=⟨_,rfl⟩;have h6:=Gn.out.step (World.Za wr.heap.size wr nq);have RE:wr.heap.size<=(wr.drewN nq).heap.size:=(World.Za wr.heap.size wr nq).size;have T6:=(h6.below.cell (p:=⟨sb,so+j,none⟩) LM).trans hsc;have U6:=(h6.below.cell (p:=⟨kb,zv+j,none⟩) Rj).trans kY;rw[Ht]at h6 RE T6 U6⊢;have H6:=da h6;have HSC:=da hsc;have Fw:=da kY;have m1:=h6.blk.cell 1;have y1:=h6.blk.frozen 1;have l6:=h6.blk.lt;have lb6:=h6.below.size;have H6A:Hid (mM W ((w6.alloc (.cells #[.int .i64 sv] 3)).drew) (W.heap.size+1) i cs (pre++[a]) (.slice va cs.length zh) (.slice (some ⟨gk,0,none⟩) (pre.length+1) gc)):=h6.step (((za _ _).alloc (ja _) _).drew);clear h6 Ht FH vW n1 n2 z1 z2 JB Gn Zd V1 hsc kY RE;go_upto_region 6 with(fail)
    go_region_law (refine bn (xs:=cs) H6A.out.Ja Ha _ _ Ha Ha ⟨w6.heap.size,0,none⟩ Ha H6A.out.below.size ia sv ((Bb.new w6 3 #[.int .i64 sv]).cell 0) ?_;intro g7 c7 w7 h7 rE ha7;obtain⟨q1,q2⟩:=H6A.out.cut h7 rE ha7;have s1:=q2.cell 1;have f1:=q2.frozen 1)
    all_goals
     have H8:=da q1;clear q1 q2 s1 f1 h7 rE ha7 m1 y1 l6 lb6 T6 U6;obtain⟨w8,hw8⟩:∃w8,w7.setCell ⟨W.heap.size+1,1,none⟩ (.slice (some ⟨g7,0,none⟩) (cs.length+1) c7)=w8:=⟨_,rfl⟩;rw[hw8]at H8⊢;clear hw8;have BW:=(H8.out.below.cell (p:=⟨kb,zv+j,none⟩) Rj).trans Fw.out;have m2:=H8.out.blk.cell 2;have y2:=H8.out.blk.frozen 2;have l8:=H8.out.blk.lt;have lb8:=H8.out.below.size;have akf:kb<w8.heap.size:=by omega
     have H8A:Hid (mM W ((w8.alloc (.cells #[.int .i64 kv] 3)).drew) (W.heap.size+1) i (cs++[sv]) (pre++[a]) (.slice (some ⟨g7,0,none⟩) (cs.length+1) c7) (.slice (some ⟨gk,0,none⟩) (pre.length+1) gc)):=H8.out.step (((za _ _).alloc (ja _) _).drew);have H8B:Hid (((w8.alloc (.cells #[.int .i64 kv] 3)).drew).ownsRow W.heap.size 3 1 (.slice (some ⟨gk,0,none⟩) (pre.length+1) gc) (pre++[a]).length ((pre++[a]).map iW)):=H8A.out.kids;have O1:(pre++[a]).length<=2000000:=by rw[Ea,Hb];omega
     go_upto_region 7 with(fail)
     go_region_law (refine bn (xs:=pre++[a]) H8B.out Ha _ _ Ha Ha ⟨w8.heap.size,0,none⟩ Ha H8A.out.below.size O1 kv ((Bb.new w8 3 #[.int .i64 kv]).cell 0) ?_;intro g9 c9 w9 h9 oV ha9;obtain⟨q1,q2⟩:=H8A.out.O5 h9 oV ha9;have s1:=q2.cell 2;have f1:=q2.frozen 2)
     all_goals
      rw[show(pre++[a]).length=pre.length+1 from by simp]at q1;have H9:=da q1;clear q1 q2 s1 f1 h9 oV ha9;go_wp2;go_roundw
      case rel=>(exact⟨j+1,cs++[sv],pre++[a],kv,_,_,ia,ia,by go_num,H9,by simp;omega,by simp;omega,by show _=_;rw[yK.out];simp⟩)
      case measure=>simp[intOf];omega
  {(have Mk:j=kids.length:=ia);have Zz:=qR.out;have l9:(Ce.zip kids).drop j=[]:=Ta (by rw[ah];omega);rw[l9,Hh,Yc,Yc]at Zz;have KO:F.1=cs:=(Prod.mk.inj Zz).1;have oJ:k0::F.2=pre++[a]:=(Prod.mk.inj Zz).2;have hd:=HD.out;have di:=da Gn.out.below;have Zv:=da (HM.out.below Gn.out.below (ja _));have JD:Hid (ld H [K] W wr):=ld.Vb Gn.out.below (ja _);have Uu:Hid (Js [K] K W wr):=Js.Vb Gn.out.below hK;clear Zz l9 qR;cases pre with| nil=>{(have h2:F.2=[]:=by simp at oJ;exact oJ.2);rw[if_pos h2]at hd;have HDD:=da hd;have akh:=(Gn.out.below.cell (p:=⟨kb,zv,none⟩) hkb).trans hkc;clear hd h2 KO oJ JB z1 z2 Gn;go_wp2;go_ret;rw[HDD.out];exact⟨ke (by show k0=((k0.toNat:Nat):Int);omega),Zv.out,JD.out,Uu.out⟩}| cons b0 pre=>{have h2:F.2≠[]:=by{intro e;rw[e]at oJ;have:=congrArg List.length oJ;simp at this};rw[Aa h2,KO,oJ]at hd;have HDD:=da hd;have n0:=Gn.out.blk.cell 0;have n3:=Gn.out.blk.cell 3;(have hne1:(((b0::pre).length+1:Nat):Int)≠1:=by simp;omega);have hin:=Gn.out;have HAD:=da (Yy H K S t ⟨i,cs,(b0::pre)++[a],false⟩ _ _ wr Zv.out (Um hin.Ja PG ia) (Um hin.kids PG ia) hl);clear hd h2 KO oJ JB Gn hin;go_wp2_with (go_at_call 114;refine HAD.out.mono ?_;rintro e w3 ⟨rfl,h3⟩;have H3:=da h3;clear h3);go_ret;rw[HDD.out];exact⟨rfl,H3.out.1,JD.out.trans H3.out.2.1,Uu.out.trans H3.out.2.2 JD.out.size⟩}}
end Go.Proofs.YtejbgoigkefnfaaGreatDoor
