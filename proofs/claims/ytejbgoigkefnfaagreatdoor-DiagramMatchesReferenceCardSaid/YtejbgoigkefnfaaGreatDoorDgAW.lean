/- And's recursion for any fuel; the walk of diagram.And. A bound on the facts alone. -/
import Derived.Test.YtejbgoigkefnfaaGreatDoorAl
import Derived.Test.YtejbgoigkefnfaaGreatDoorDgAX
import Derived.Test.YtejbgoigkefnfaaGreatDoorDgRfP
set_option maxRecDepth 100000
set_option maxHeartbeats 4000000
namespace Go.Proofs.YtejbgoigkefnfaaGreatDoor
open Go.RowKit
theorem GA {w0 W:World}{K:Nat}{S:List Nat}{m:List Dn}{dn:pe}(hS:Cr w0 K S m dn W)(x y:Nat):
  (Instr.lookup 108 (.map (some (K+2))) (.agg #[.int .i64 (x:Int),.int .i64 (y:Int)]) true).run Tryz.prog W=.ok (match dn.lookup (x,y)with | some k=>.tuple #[.int .i64 (k:Int),.bool true] | none=>.tuple #[.int .i64 0,.bool false]) W:=by
 obtain⟨mp,hm,kE⟩:=hS.Cj;have q:=AK Tryz.underlying108 Dr hm (x,y);rw[kE]at q;cases h:dn.lookup (x,y)with| some k=>rw[h]at q;exact q| none=>rw[h]at q;exact q
theorem YM {w0:World}{K PA PB PD:Nat}{S:List Nat}{d:List Fa}{ta tb:List Dn}{va vb vd:Value}(hE:DR w0 K PA PB PD d ta tb va vb vd)(x y:Nat)(m:List Dn)(dn:pe)(k:Nat)(hk:dn.lookup (x,y)=some k)(W:World)(hS:Cr w0 K S m dn W):
  Calls Tryz.prog 70 #[.int .i64 x,.int .i64 y,.pointer (some ⟨K+3,0,none⟩),.pointer (some ⟨PA,0,none⟩),.pointer (some ⟨PB,0,none⟩),.pointer (some ⟨PD,0,none⟩),.pointer (some ⟨K+1,0,none⟩),.pointer (some ⟨K+4,0,none⟩)] W fun e W'=>e=.returned (.int .i64 k)/\ Cr w0 K S m dn W'/\ ld K [] W W':=by
 have T7:=(hS.blk hE.dv ⟨pa,pa⟩).cell 0;have hlk:=GA hS x y;rw[hk]at hlk;have HS:=da hS;clear hE hS hk;go_enter Tryz.func70,Tryz.ntmps70;go_wp2;go_ret;exact⟨rfl,HS.out,ld.refl _ _ _⟩
theorem Kx {d:List Fa}{lo hi:Nat->Int}{len:Nat}{rk:Nat->Nat}{n:Dn}(h:Ap d.length lo hi len rk n):lE d n=(Fb d.length n:Nat):=by
 unfold lE Fb;by_cases hk:n.kids=[]
 {rw[if_pos hk,if_pos hk]}
 {rw[Aa hk,Aa hk];have:=(h.inner hk).2.1;omega}
def Rk (d:List Fa)(ta tb:List Dn)(f:Nat)(m:List Dn)(dn:pe)(x y:Nat)(l:List Int):(List Dn×pe)×List Int:=l.foldl (Sv d.length ta tb (sJ d.length (Pe d) ta tb) 20000 f x y) ((m,dn),[])
theorem Dq {d:List Fa}{ta tb:List Dn}{f:Nat}{m:List Dn}{dn:pe}{x y:Nat}(hk:dn.lookup (x,y)=none)(h:Pb d.length ta tb x y=d.length\/20000<m.length):
  bh d ta tb (f+1) m dn x y=(((Md m ⟨0,[],[],(ta.getD x default).leaf&& (tb.getD y default).leaf⟩).1,dn),(Md m ⟨0,[],[],(ta.getD x default).leaf&& (tb.getD y default).leaf⟩).2):=by
 unfold bh ui;rw[hk]
 dsimp only
 rw[if_pos h]
theorem Tv {d:List Fa}{ta tb:List Dn}{f:Nat}{m:List Dn}{dn:pe}{x y:Nat}(hk:dn.lookup (x,y)=none)(h:¬(Pb d.length ta tb x y=d.length\/20000<m.length)):
  bh d ta tb (f+1) m dn x y=(((Mc (Rk d ta tb f m dn x y (sJ d.length (Pe d) ta tb x y)).1.1 (Pb d.length ta tb x y) (sJ d.length (Pe d) ta tb x y) (Rk d ta tb f m dn x y (sJ d.length (Pe d) ta tb x y)).2).1,
   ((x,y),(Mc (Rk d ta tb f m dn x y (sJ d.length (Pe d) ta tb x y)).1.1 (Pb d.length ta tb x y) (sJ d.length (Pe d) ta tb x y) (Rk d ta tb f m dn x y (sJ d.length (Pe d) ta tb x y)).2).2)::(Rk d ta tb f m dn x y (sJ d.length (Pe d) ta tb x y)).1.2),
   (Mc (Rk d ta tb f m dn x y (sJ d.length (Pe d) ta tb x y)).1.1 (Pb d.length ta tb x y) (sJ d.length (Pe d) ta tb x y) (Rk d ta tb f m dn x y (sJ d.length (Pe d) ta tb x y)).2).2):=by
 conv=>lhs;unfold bh ui
 rw[hk]
 dsimp only
 rw[Aa h]
 rfl
theorem Qs {d:List Fa}{ta tb:List Dn}{f:Nat}{m:List Dn}{dn:pe}{x y:Nat}(l:List Int)(k:Nat)(hk:k<l.length):Rk d ta tb f m dn x y (l.take (k+1))=Sv d.length ta tb (sJ d.length (Pe d) ta tb) 20000 f x y (Rk d ta tb f m dn x y (l.take k)) l[k]:=by
 unfold Rk;rw[Ka hk,Od]
 rfl
theorem yV {d:List Fa}{lo hi:Nat->Int}{len:Nat}{rk:Nat->Nat}{n:Dn}(h:Ap d.length lo hi len rk n):Fb d.length n<=d.length:=by
 unfold Fb;by_cases hk:n.kids=[]
 {rw[if_pos hk];exact ja _}
 {rw[Aa hk];exact Nat.le_of_lt (h.inner hk).2.2.1}
theorem mE (l:List Int):(Ds l).length<=l.length:=by
 cases l with| nil=>exact ja _| cons a l=>have:=Er l a;unfold Ds;simp;omega
theorem Qu (b:Prop)[Decidable b](l:List Int):(if b then l else[]).length<=l.length:=by
 by_cases h:b
 {rw[if_pos h];exact ja _}
 {rw[Aa h];exact xb _}
def CC (nf:Nat)(lo:Int)(i:Nat)(p q:Dn)(j:Nat):List Int:=lo::((if 0<j/\ Fb nf p=i then p.Ja else[])++(if 1<j/\ Fb nf q=i then q.Ja else[]))
theorem BK {p q:Dn}{ac ak ac2 ak2:Option Addr}{cc ck cc2 ck2:Nat}(P:Dn->Option Addr->Nat->Prop)(hp:P p ac cc)(hq:P q ac2 cc2)(nf:Nat)(lo:Int)(i:Nat):∀j,j<2->∃(n:Dn) (a1 a2:Option Addr) (k1 k2:Nat),
  (∀(wr:World) (R:Nat),Bb wr R 56 #[.int .i64 p.fact,.slice ac p.Ja.length cc,.slice ak p.kids.length ck,.bool p.leaf,.int .i64 q.fact,.slice ac2 q.Ja.length cc2,.slice ak2 q.kids.length ck2,.bool q.leaf]->wr.cell? ⟨R,j*4,none⟩=some (.int .i64 n.fact)/\ wr.cell? ⟨R,j*4+1,none⟩=some (.slice a1 n.Ja.length k1)/\ wr.cell? ⟨R,j*4+2,none⟩=some (.slice a2 n.kids.length k2)/\ wr.cell? ⟨R,j*4+3,none⟩=some (.bool n.leaf))/\
  P n a1 k1/\ CC nf lo i p q (j+1)=CC nf lo i p q j++(if Fb nf n=i then n.Ja else[])
 | 0,_=>⟨p,ac,ak,cc,ck,fun _ _ h=>⟨h.cell 0,h.cell 1,h.cell 2,h.cell 3⟩,hp,by unfold CC;simp⟩
 | 1,_=>⟨q,ac2,ak2,cc2,ck2,fun _ _ h=>⟨h.cell 4,h.cell 5,h.cell 6,h.cell 7⟩,hq,by unfold CC;simp⟩
 | n+2,h=>by omega
theorem ER {d:List Fa}{ta tb:List Dn}{x y i:Nat}{p q:Dn}(hp:ta.getD x default=p)(hq:tb.getD y default=q)(hi:Pb d.length ta tb x y=i):sJ d.length (Pe d) ta tb x y=Ds ((CC d.length (Pe d i) i p q 2).mergeSort fun x y=>decide (x<=y)):=by
 unfold sJ CC;rw[hp,hq,hi]
 simp
structure MZ (w0 : World) (K : Nat) (d : List Fa) (n : Dn) (a : Option Addr) (k : Nat) : Prop where
 Ja:IntsIn w0 K n.Ja (.slice a n.Ja.length k)
 ask:lE d n=(Fb d.length n:Nat)
 Yw:n.Ja.length<=1000000
 some:Fb d.length n<d.length->n.Ja≠[]
theorem mU {w0:World}{K:Nat}{d:List Fa}{t:List Dn}(hd:Ih d)(hT:Lg d.length (Pe d) (Mh d) t){x:Nat}(hx:x<t.length){a:Option Addr}{k:Nat}(hc:IntsIn w0 K t[x].Ja (.slice a t[x].Ja.length k)):MZ w0 K d t[x] a k:=by
 have hp:=hT x hx;rw[Eb _ _ _ hx]at hp;refine⟨hc,Kx hp,(Sj hd hT _ (Ga hx)).2,fun h=>?_⟩;unfold Fb at h;by_cases hk:t[x].kids=[]
 {rw[if_pos hk]at h;omega}
 {exact(hp.inner hk).2.2.2.1}
structure FR (w3 wr : World) (cs : Array Value) (ls : List Int) (sl : Value) : Prop where
 below:Below w3.heap.size w3 wr
 row:wr.ownsRow w3.heap.size 3 1 sl ls.length (ls.map iW)
 nodes:Bb wr (w3.heap.size+1) 56 cs
theorem FR.step {w3 wr w':World}{cs:Array Value}{ls:List Int}{sl:Value}(h:FR w3 wr cs ls sl)(hb:Below wr.heap.size wr w'):FR w3 w' cs ls sl:=⟨h.below.trans (hb.mono h.below.size),Nd h.row hb,h.nodes.below hb⟩
theorem FR.Lu {w3 w' w7:World}{cs:Array Value}{ls ms:List Int}{sl v7:Value}(h:FR w3 w' cs ls sl)(h7:w7.ownsRow w3.heap.size 3 1 v7 (ls.length+ms.length) ((ls++ms).map iW))(hg:w'.grownBy w7 sl.ownBlock):FR w3 w7 cs (ls++ms) v7:=
 ⟨h.below.grown hg h.below.size (fun g e=>(Ie h.row g e).1),by rw[Ea];exact h7,h.nodes.grown hg (fun e=>int_ne pa h.nodes h.row _ e.symm rfl)⟩
theorem DK (w3:World)(lo:Int)(cs:Array Value):FR w3 ((w3.alloc (.cells #[.int .i64 lo] 3)).alloc (.cells cs 56)) cs [lo] (.slice (some ⟨w3.heap.size,0,none⟩) 1 1):=by
 refine⟨((za _ _).alloc (ja _) _).alloc la _,⟨rfl,.inr ⟨w3.heap.size,1,#[.int .i64 lo],rfl,ja _,?_,ja _,pa,rfl,rfl⟩⟩,?_⟩
 {rw[Tb _ _ _ la];exact World.alloc_heap_new w3 _}
 {have q:=Bb.new (w3.alloc (.cells #[.int .i64 lo] 3)) 56 cs;rw[Ba]at q;exact q}
structure Z' (W wx : World) (bp bq : Nat) (np nq : Array Value) : Prop where
 below:Below W.heap.size W wx
 p:Bb wx bp 56 np
 q:Bb wx bq 56 nq
 lp:W.heap.size<=bp
 lq:W.heap.size<=bq
theorem pJ (W:World)(np nq:Array Value):Hid (Z' W ((W.alloc (.cells np 56)).alloc (.cells nq 56)).drew W.heap.size (W.heap.size+1) np nq):=by
 refine⟨(((za _ _).alloc (ja _) _).alloc la _).drew,(Bb.new W 56 np).alloc _,?_,ja _,ia⟩;have q:=Bb.new (W.alloc (.cells np 56)) 56 nq;rw[Ba]at q;exact q
theorem GR (W:World)(np nq:Array Value):Hid (Z' W ((W.alloc (.cells nq 56)).alloc (.cells np 56)).drew (W.heap.size+1) W.heap.size np nq):=by
 have q:=(pJ W nq np).out;exact⟨q.below,q.q,q.p,q.lq,q.lp⟩
theorem ZM {d:List Fa}{ta tb:List Dn}(vA:te d ta)(vB:te d tb){f:Nat}{m:List Dn}{dn:pe}{x y:Nat}(hI:fA d.length (Pe d) (Mh d) ta tb (ug d ta) (ug d tb) 20000 m dn)(hx:x<ta.length)(hy:y<tb.length)(hi':Pb d.length ta tb x y<d.length)(hf:d.length-Pb d.length ta tb x y<f+1)(l:List Int):
  IA d.length (Pe d) (Mh d) ta tb (ug d ta) (ug d tb) 20000 f m x y l (Rk d ta tb f m dn x y l):=by
 have q:=Ru vA.dh vB.dh (S:=sJ d.length (Pe d) ta tb) (nE vA.dh vB.dh (fun x y hx hy hi=>JA vA.dh vB.dh hx hy hi) f) hx hy hi' hf (m:=m) l [] ((m,dn),[]) ⟨hI,rfl,fun j hj=>absurd hj (Ib j),⟨[],la⟩,by show sk m<=_;omega⟩;exact q
theorem oE {d:List Fa}{ta tb:List Dn}(vA:te d ta)(vB:te d tb){x y:Nat}(hx:x<ta.length)(hy:y<tb.length)(hi':Pb d.length ta tb x y<d.length):0<(sJ d.length (Pe d) ta tb x y).length/\ (sJ d.length (Pe d) ta tb x y).length<=1000001/\ ∀v∈sJ d.length (Pe d) ta tb x y,0<=v/\ v<=1000000:=by
 have hl:=(mg vA.dom).Fq _ hi';obtain⟨ss,e1,e2,_⟩:=JA vA.dh vB.dh hx hy hi';have hc:=Su ss _ e2 hl.2.1;rw[e1];refine⟨la,by simp;omega,fun v hv=>?_⟩;rcases List.mem_cons.1 hv with rfl | hv
 {omega}
 {have:=Tj _ _ e2 v hv;omega}
def nU (w0:World)(K PA PB PD:Nat)(d:List Fa)(ta tb:List Dn)(f:Nat):Prop:=
 ∀(S:List Nat) (m:List Dn) (dn:pe) (x y:Nat) (W:World),(∀b∈S,b<W.heap.size)->fA d.length (Pe d) (Mh d) ta tb (ug d ta) (ug d tb) 20000 m dn->sk m<=20100->x<ta.length->y<tb.length->d.length-Pb d.length ta tb x y<f->Cr w0 K S m dn W->
  Calls Tryz.prog 70 #[.int .i64 x,.int .i64 y,.pointer (some ⟨K+3,0,none⟩),.pointer (some ⟨PA,0,none⟩),.pointer (some ⟨PB,0,none⟩),.pointer (some ⟨PD,0,none⟩),.pointer (some ⟨K+1,0,none⟩),.pointer (some ⟨K+4,0,none⟩)] W fun e W'=>e=.returned (.int .i64 (bh d ta tb f m dn x y).2)/\ Cr w0 K S (bh d ta tb f m dn x y).1.1 (bh d ta tb f m dn x y).1.2 W'/\ ld K [] W W'
structure zV (w0 : World) (K : Nat) (S : List Nat) (w6 : World) (r : (List Dn × pe) × List Int) (kv : Value) (wr : World) : Prop where
 st:Cr w0 K (xe kv++S) r.1.1 r.1.2 wr
 Al:ld K [] w6 wr
 own:wr.ownsRow w6.heap.size 3 1 kv r.2.length (r.2.map iW)
section
variable {w0 w6 wr w8 Ei : World} {K : Nat} {S : List Nat} {r : (List Dn × pe) × List Int} {r' : List Dn × pe} {kv v' : Value}
theorem zV.aN (h:zV w0 K S w6 r kv wr)(h8:Cr w0 K (xe kv++S) r'.1 r'.2 w8/\ ld K [] wr w8)(o:Obj):(w8.alloc o).ownsRow w6.heap.size 3 1 kv r.2.length (r.2.map iW):=
 yk h.own (h8.2.alloc o) ⟨pa,pa⟩ la
theorem zV.Lu (h:zV w0 K S w6 r kv wr)(hK:K+5<=w0.heap.size)(hw:w0.heap.size<=w6.heap.size)(h8:Cr w0 K (xe kv++S) r'.1 r'.2 w8/\ ld K [] wr w8){o:Obj}(hg:(w8.alloc o).grownBy Ei kv.ownBlock){g:Nat}(hv:v'.ownBlock=some g)(hat:kv.ownBlock=some g\/g=(w8.alloc o).heap.size)
  {k:Int} (pE:Ei.ownsRow w6.heap.size 3 1 v' (r.2++[k]).length ((r.2++[k]).map iW)):zV w0 K S w6 (r',r.2++[k]) v' Ei:=by
 obtain⟨q1,q2⟩:=(h8.1.below ((za _ _).alloc (ja _) o)).Lu hK (h.aN h8 o) hw hg hv hat;refine⟨q1,?_,pE⟩;refine(((h.Al.trans (h8.2.alloc o)).more (S':=xe kv) la).trans q2).less fun b hb hlt=>?_
 have e:kv.ownBlock=some b:=by unfold xe at hb;simpa using hb
 have:=(Ie h.own b e).1;omega
end
theorem bN {w0:World}{K PA PB PD:Nat}{d:List Fa}{ta tb:List Dn}{va vb vd:Value}(hE:DR w0 K PA PB PD d ta tb va vb vd)(gA:te d ta)(gB:te d tb)(f:Nat)(hf9:f<=90)(IH:nU w0 K PA PB PD d ta tb f)
  (S:List Nat) (m:List Dn) (dn:pe) (x y:Nat) (W:World) (PG:∀b∈S,b<W.heap.size) (hI:fA d.length (Pe d) (Mh d) ta tb (ug d ta) (ug d tb) 20000 m dn) (U7:sk m<=20100) (hx:x<ta.length) (hy:y<tb.length) (Tu:d.length-Pb d.length ta tb x y<f+1) (hk:dn.lookup (x,y)=none) (hS:Cr w0 K S m dn W):
  Calls Tryz.prog 70 #[.int .i64 x,.int .i64 y,.pointer (some ⟨K+3,0,none⟩),.pointer (some ⟨PA,0,none⟩),.pointer (some ⟨PB,0,none⟩),.pointer (some ⟨PD,0,none⟩),.pointer (some ⟨K+1,0,none⟩),.pointer (some ⟨K+4,0,none⟩)] W fun e W'=>e=.returned (.int .i64 (bh d ta tb (f+1) m dn x y).2)/\ Cr w0 K S (bh d ta tb (f+1) m dn x y).1.1 (bh d ta tb (f+1) m dn x y).1.2 W'/\ ld K [] W W':=by
 have Lx:m.length<=30000:=by have:=Mx hI.made;omega
 have T7:=(hS.blk hE.dv ⟨pa,pa⟩).cell 0;have hlk:=GA hS x y;rw[hk]at hlk;have hsz:=hS.size;have NZ:=hE.size;have hb0:Below K w0 W:=hS.iq.below ia;obtain⟨ag,cg,Mu,_⟩:=Xa.shape hE.ga;obtain⟨bg,dg,Hn,_⟩:=Xa.shape hE.gb;subst Mu;subst Hn;obtain⟨gb,go,rfl,Xr,vpc,vpk,n0,n1,n2,n3,hpc,hpk⟩:=hE.ga.at x hx;obtain⟨hb,ho,rfl,V7,vqc,vqk,m0,m1,m2,m3,IR,ZQ⟩:=hE.gb.at y hy;obtain⟨_,_,e1,al1,al2,_⟩:=Xa.shape hE.ga;obtain⟨_,_,e2,bl1,bl2,_⟩:=Xa.shape hE.gb;cases e1
 cases e2
 unfold maxLen at al2 bl2;obtain⟨ac,cc,rfl,c1,c2,_⟩:=Xa.shape hpc;obtain⟨ak,ck,rfl,k1,k2,_⟩:=Xa.shape hpk;obtain⟨ac2,cc2,rfl,c3,c4,_⟩:=Xa.shape IR;obtain⟨ak2,ck2,rfl,k3,k4,_⟩:=Xa.shape ZQ;have X7:=(hS.blk hE.ab ⟨pa,pa⟩).cell 0;have hpb:=(hS.blk hE.bb ⟨pa,pa⟩).cell 0;have n0':=(hb0.cell (p:=⟨gb,go+x*4,none⟩) Xr).trans n0;have n1':=(hb0.cell (p:=⟨gb,go+x*4+1,none⟩) Xr).trans n1;have n2':=(hb0.cell (p:=⟨gb,go+x*4+2,none⟩) Xr).trans n2;have n3':=(hb0.cell (p:=⟨gb,go+x*4+3,none⟩) Xr).trans n3;have m0':=(hb0.cell (p:=⟨hb,ho+y*4,none⟩) V7).trans m0;have m1':=(hb0.cell (p:=⟨hb,ho+y*4+1,none⟩) V7).trans m1;have m2':=(hb0.cell (p:=⟨hb,ho+y*4+2,none⟩) V7).trans m2;have m3':=(hb0.cell (p:=⟨hb,ho+y*4+3,none⟩) V7).trans m3;have lPA:PA<W.heap.size:=by have:=hE.lta;omega
 have lPB:PB<W.heap.size:=by have:=hE.ltb;omega
 have lga:gb<W.heap.size:=by omega
 have lgb:hb<W.heap.size:=by omega
 have xq:(x:Int)<(ta.length:Int):=by omega
 have hyl:(y:Int)<(tb.length:Int):=by omega
 have cN:ta.getD x default=ta[x]:=Eb _ _ _ hx;have oU:tb.getD y default=tb[y]:=Eb _ _ _ hy;have pp:=gA.table x hx;have pq:=gB.table y hy;rw[cN]at pp;rw[oU]at pq;have HE:=da hE;have HS:=da hS;have OZ:=da hpc;have PZ:=da IR;have AV:=da (mU (mg gA.dom) gA.table hx hpc);have a_:=da (mU (mg gB.dom) gB.table hy IR);generalize hp:ta[x]=p at*
 generalize hq:tb[y]=q at*
 have PP:=da pp;have PQ:=da pq;have b_:=da cN;have BV:=da oU;obtain⟨GG,DC⟩:∃GG,bh d ta tb (f+1) m dn x y=GG:=⟨_,rfl⟩;rw[DC];have Ft:=da DC;have HK:=da hk;have c_:=da hI;have Gt:=da IH;have aR:=da Tu;have Yz:=da PG;clear hI IH Tu PG;clear DC hE hS hk n0 n1 n2 n3 m0 m1 m2 m3 hpc hpk IR ZQ hp hq pp pq cN oU hb0;go_enter Tryz.func70,Tryz.ntmps70;go_upto_region 4 with(fail)
 go_cut[13,14] (fun s13 s14 wx=>∃bp bq,s13=.pointer (some ⟨bp,0,none⟩)/\ s14=.pointer (some ⟨bq,0,none⟩)/\ Hid (Z' W wx bp bq #[.int .i64 p.fact,.slice ac p.Ja.length cc,.slice ak p.kids.length ck,.bool p.leaf] #[.int .i64 q.fact,.slice ac2 q.Ja.length cc2,.slice ak2 q.kids.length ck2,.bool q.leaf]))
 case first=>
  go_region
  all_goals
   go_wp2;go_meet;exact⟨_,_,rfl,rfl,by first | exact pJ W _ _ | exact GR W _ _⟩
 case rest=>
  obtain⟨bp,bq,rfl,rfl,hN⟩:=hcut;have Bp:=da (HS.out.below hN.out.below);have Y7:Hid (ld K [] W wc):=ld.Vb hN.out.below (ja _);obtain⟨ad,cd,Nu,d1,d2,_⟩:=Xa.shape HE.out.dom;subst Nu;unfold maxLen at d2;have hsc:=hN.out.below.size;have QZ:=Bp.out.blk HE.out.db ⟨pa,pa⟩;have hdl:=(mg gA.dom).len
  have d_:Hid (∀w',Calls Tryz.prog 71 #[.agg #[.int .i64 p.fact,.slice ac p.Ja.length cc,.slice ak p.kids.length ck,.bool p.leaf],.agg #[.slice ad d.length cd]] w' fun e w''=>e=.returned (.int .i64 (Fb d.length p:Nat))/\ Hid (Below w'.heap.size w' w'')):=fun w'=>by{have h:=EC p d ac ak ad cc ck cd w';rw[Kx PP.out]at h;exact h}
  have e_:Hid (∀w',Calls Tryz.prog 71 #[.agg #[.int .i64 q.fact,.slice ac2 q.Ja.length cc2,.slice ak2 q.kids.length ck2,.bool q.leaf],.agg #[.slice ad d.length cd]] w' fun e w''=>e=.returned (.int .i64 (Fb d.length q:Nat))/\ Hid (Below w'.heap.size w' w'')):=fun w'=>by{have h:=EC q d ac2 ak2 ad cc2 ck2 cd w';rw[Kx PQ.out]at h;exact h}
  have hi:Pb d.length ta tb x y=min (Fb d.length p) (Fb d.length q):=by unfold Pb;rw[b_.out,BV.out]
  have EK:=da hi;have f_:=da QZ
  have Uu:Hid (∀w',Hid (Below wc.heap.size wc w')->(w'.cell? ⟨bp,0,none⟩=some (.int .i64 p.fact)/\ w'.cell? ⟨bp,1,none⟩=some (.slice ac p.Ja.length cc)/\ w'.cell? ⟨bp,2,none⟩=some (.slice ak p.kids.length ck)/\ w'.cell? ⟨bp,3,none⟩=some (.bool p.leaf)/\ w'.cell? ⟨bq,0,none⟩=some (.int .i64 q.fact)/\ w'.cell? ⟨bq,1,none⟩=some (.slice ac2 q.Ja.length cc2)/\ w'.cell? ⟨bq,2,none⟩=some (.slice ak2 q.kids.length ck2)/\ w'.cell? ⟨bq,3,none⟩=some (.bool q.leaf)/\ w'.cell? ⟨PD,0,none⟩=some (.slice ad d.length cd))/\ Hid (Below wc.heap.size wc w')):=fun w' hb=>by{have k1:=hN.out.p.below hb.out;have k2:=hN.out.q.below hb.out;have k3:=f_.out.below hb.out;exact⟨⟨k1.cell 0,k1.cell 1,k1.cell 2,k1.cell 3,k2.cell 0,k2.cell 1,k2.cell 2,k2.cell 3,k3.cell 0⟩,hb⟩}
  have Yi:Hid (Below wc.heap.size wc wc.drew):=(za _ _).drew;obtain⟨rp,CV⟩:∃rp,Fb d.length p=rp:=⟨_,rfl⟩;obtain⟨rq,DV⟩:∃rq,Fb d.length q=rq:=⟨_,rfl⟩;rw[CV]at d_ EK;rw[DV]at e_ EK;have Z7:=da CV;have g_:=da DV;clear hi QZ T7 hlk X7 hpb n0' n1' n2' n3' m0' m1' m2' m3' CV DV;go_upto_region 5 with(fail)
  go_region_held3 (fun w'=>(w'.cell? ⟨bp,0,none⟩=some (.int .i64 p.fact)/\ w'.cell? ⟨bp,1,none⟩=some (.slice ac p.Ja.length cc)/\ w'.cell? ⟨bp,2,none⟩=some (.slice ak p.kids.length ck)/\ w'.cell? ⟨bp,3,none⟩=some (.bool p.leaf)/\ w'.cell? ⟨bq,0,none⟩=some (.int .i64 q.fact)/\ w'.cell? ⟨bq,1,none⟩=some (.slice ac2 q.Ja.length cc2)/\ w'.cell? ⟨bq,2,none⟩=some (.slice ak2 q.kids.length ck2)/\ w'.cell? ⟨bq,3,none⟩=some (.bool q.leaf)/\ w'.cell? ⟨PD,0,none⟩=some (.slice ad d.length cd))/\ Hid (Below wc.heap.size wc w'))
   (exact Uu.out _ Da)
   (first
    | (go_at_call_of 71 ac;refine(d_.out _).mono ?_;rintro e w2 ⟨rfl,RZ⟩;have Vd:Hid (Below wc.heap.size wc w2):=(show Hid (Below wc.heap.size wc _) by assumption).out.trans (RZ.out.mono (show Hid (Below wc.heap.size wc _) by assumption).out.size))
    | (go_at_call_of 71 ac2;refine(e_.out _).mono ?_;rintro e w3 ⟨rfl,SZ⟩;have Qc:Hid (Below wc.heap.size wc w3):=(show Hid (Below wc.heap.size wc _) by assumption).out.trans (SZ.out.mono (show Hid (Below wc.heap.size wc _) by assumption).out.size)))
  go_split_ands;obtain⟨i,hi⟩:∃i,min rp rq=i:=⟨_,rfl⟩;rw[hi]at EK;have Ew:min (rp:Int) (rq:Int)=(i:Int):=by omega
  rw[Ew];have WD:=da (Bp.out.below Qc.out);have HM3:Hid (ld K [] W w3):=Y7.out.trans (ld.Vb Qc.out (ja _));have qJ:=(WD.out.blk HE.out.mv ⟨pa,pa⟩).cell 0;obtain⟨_,⟨mv,mo,xs,g1,g2,g3,_⟩,_⟩:=WD.out.is;obtain⟨ma,mc,kH⟩:=Wd g2;have hxn:xs.length=m.length:=by rw[<-g3,Sa]
  subst kH;have QG:=g1.cell 0;rw[hxn]at QG;have HMI:=da hi;clear g1 g2 g3 hxn Ew hi d_ e_ Yi Vd RZ SZ;by_cases hend:i=d.length\/20000<m.length
  ·have vM:=da (Dq (d:=d) (f:=f) HK.out (hend.imp (fun h=>EK.out.trans h) id))
   have TZ:=da (show(⟨0,[],[],(ta.getD x default).leaf&& (tb.getD y default).leaf⟩:Dn)=⟨0,[],[],p.leaf&& q.leaf⟩ by rw[b_.out,BV.out]);obtain⟨bl,En⟩:∃bl,(p.leaf&& q.leaf)=bl:=⟨_,rfl⟩;have HN:=da (Qt K K S m ⟨0,[],[],bl⟩ (.slice none 0 0) (.slice none 0 0) _ WD.out.is (Me.nil _ _ _) (Me.nil _ _ _) ia ⟨⟨by show(-9223372036854775808:Int)<=0;decide,by show(0:Int)<=9223372036854775807;decide⟩,la,la,la,la⟩ (HE.out.Nx.on (WD.out.iq.below ia)))
   have Uv:Hid (GG=(((Md m ⟨0,[],[],bl⟩).1,dn),(Md m ⟨0,[],[],bl⟩).2)):=by{show _=_;rw[<-Ft.out,vM.out,TZ.out,En]}
   have Tm:((i:Int)==(d.length:Int))=true\/(((i:Int)==(d.length:Int))=false/\ decide ((20000:Int)<(m.length:Int))=true):=by{by_cases h:i=d.length;{left;simp[h]};{right;exact⟨by simpa using(by omega:¬(i:Int)=d.length),by simp;omega⟩}}
   clear vM Ft TZ hend;generalize(Md m ⟨0,[],[],bl⟩).2=r2 at*
   generalize(Md m ⟨0,[],[],bl⟩).1=r1 at*
   rcases Tm with Tm | ⟨Tm,h_⟩
   all_goals
    cases FC:p.leaf
    all_goals
     rw[FC]at En;simp only[Bool.false_and,Ge]at En;subst En;go_wp2_with (go_at_call 40;refine HN.out.mono ?_;rintro e w4 ⟨rfl,h2,h3⟩;have H2:=da (WD.out.step h3 h2);have HM:=da (HM3.out.trans h3.s);clear h2 h3);go_ret;rw[Uv.out];exact⟨rfl,H2.out,HM.out⟩
  ·have FK:i<d.length:=by
    have h1:=yV PP.out;rw[Z7.out]at h1;have h2:=HMI.out;omega
   have hm2:m.length<=20000:=by omega
   have vM:=da (Tv (d:=d) (f:=f) HK.out (fun h=>hend (h.imp (fun h=>EK.out.symm.trans h) id)));have hie:((i:Int)==(d.length:Int))=false:=by simpa using(by omega:¬(i:Int)=d.length)
   have hdd:decide ((20000:Int)<(m.length:Int))=false:=by simp;omega
   obtain⟨db,df,rfl,dN,f0,f1,f2,f3,_⟩:=HE.out.dom.at i FK;have eN:d[i].lo=Pe d i:=by unfold Pe;rw[Eb _ _ _ FK]
   rw[eN]at f2;have oJ:=((WD.out.iq.below ia).cell (p:=⟨db,df+i*4+2,none⟩) dN).trans f2;have i_:(i:Int)<(d.length:Int):=by omega
   have lPD:PD<w3.heap.size:=Wb f_.out.lt Qc.out.size;obtain⟨lo,hlo⟩:∃lo,Pe d i=lo:=⟨_,rfl⟩;rw[hlo]at oJ;have EV:=da hlo;clear hend f0 f1 f2 f3 eN hlo;have hps:bp<w3.heap.size:=Wb hN.out.p.lt Qc.out.size;have hqs:bq<w3.heap.size:=Wb hN.out.q.lt Qc.out.size;go_upto_region 8 with(fail);clear qJ QG hie hdd;go_upto_region 10 with(fail);have JR:=DK w3 lo #[.int .i64 p.fact,.slice ac p.Ja.length cc,.slice ak p.kids.length ck,.bool p.leaf,.int .i64 q.fact,.slice ac2 q.Ja.length cc2,.slice ak2 q.kids.length ck2,.bool q.leaf];obtain⟨W5,CY⟩:∃W5,((w3.alloc (.cells #[.int .i64 lo] 3)).alloc (.cells #[.int .i64 p.fact,.slice ac p.Ja.length cc,.slice ak p.kids.length ck,.bool p.leaf,.int .i64 q.fact,.slice ac2 q.Ja.length cc2,.slice ak2 q.kids.length ck2,.bool q.leaf] 56))=W5:=⟨_,rfl⟩;rw[CY]at JR⊢;have lH:=da JR;have j8:=da (BK (ac:=ac) (cc:=cc) (ak:=ak) (ck:=ck) (ac2:=ac2) (cc2:=cc2) (ak2:=ak2) (ck2:=ck2) (MZ w0 K d) AV.out a_.out d.length lo i);clear CY JR oJ dN
   go_loopw [16,84] (fun sl iv wr=>∃j:Nat,j<=2/\ iv=.int .i64 j/\ Hid (FR w3 wr #[.int .i64 p.fact,.slice ac p.Ja.length cc,.slice ak p.kids.length ck,.bool p.leaf,.int .i64 q.fact,.slice ac2 q.Ja.length cc2,.slice ak2 q.kids.length ck2,.bool q.leaf] (CC d.length lo i p q j) sl)) (fun _ iv _=>2-(intOf iv).toNat)
   case atStart=>exact⟨0,ia,rfl,by simpa[CC]using lH⟩
   case round=>
    obtain⟨j,hj,rfl,hL⟩:=hrel;obtain⟨sa,sc,RG⟩:=Wd hL.out.row;subst RG;clear lH;have agr:=(f_.out.below (Qc.out.trans (hL.out.below.mono Qc.out.size))).cell 0;have ags:PD<wr.heap.size:=Wb lPD hL.out.below.size;by_cases hlt:j<2
    {obtain⟨n,a1,a2,k1,k2,hc,hn,qE⟩:=j8.out j hlt;obtain⟨c0,c1',c2',c3'⟩:=hc wr _ hL.out.nodes;have bR:=da hn;have FV:=da qE;(have hlt2:(j:Int)<2:=ia);have lR:w3.heap.size+1<wr.heap.size:=hL.out.nodes.lt;have UZ:=da (fun w'=>EC n d a1 a2 (some ⟨db,df,none⟩) k1 k2 cd w');have wM:=da hn.ask;have agu:(CC d.length lo i p q j).length+n.Ja.length<=3000001:=by{have h1:=AV.out.Yw;have h2:=a_.out.Yw;have h3:=hn.Yw;have h4:(CC d.length lo i p q j).length<=1+p.Ja.length+q.Ja.length:=by{unfold CC;have q1:=Qu (0<j/\ Fb d.length p=i) p.Ja;have q2:=Qu (1<j/\ Fb d.length q=i) q.Ja;rw[ib,Ea];omega};omega};have h3z:w3.heap.size<=wr.heap.size:=hL.out.below.size;have Fw:Hid (∀w',Below w3.heap.size w3 w'->∀cb co,a1=some ⟨cb,co,none⟩->∀jj u,(n.Ja.map iW)[jj]? =some u->w'.cell? (Addr.add ⟨cb,co,none⟩ jj)=some u):=by{intro w' hb cb co e jj u hu;rw[Kb]at hu;obtain⟨z,hz,rfl⟩:=Option.map_eq_some_iff.1 hu;obtain⟨cR,rfl⟩:=List.getElem?_eq_some_iff.1 hz;obtain⟨b',o',e',hbK,hcell⟩:=Xa.one bR.out.Ja jj cR;rw[e]at e';(cases e');have j_:=(WD.out.iq.below (by omega:K<=w0.heap.size)).trans (hb.mono (by have:=WD.out.size;omega));have q:=(j_.cell (p:=⟨cb,co+jj,none⟩) hbK).trans hcell;rw[Addr.add];(split);{next hz=>subst hz;exact q};{exact q}};(have eh:∀w6,Below (wr.heap.size+1) (wr.alloc (.cells #[.int .i64 n.fact,.slice a1 n.Ja.length k1,.slice a2 n.kids.length k2,.bool n.leaf] 56)) w6->FR w3 w6 #[.int .i64 p.fact,.slice ac p.Ja.length cc,.slice ak p.kids.length ck,.bool p.leaf,.int .i64 q.fact,.slice ac2 q.Ja.length cc2,.slice ak2 q.kids.length ck2,.bool q.leaf] (CC d.length lo i p q j) (.slice sa (CC d.length lo i p q j).length sc)/\ w6.cell? ⟨wr.heap.size,1,none⟩=some (.slice a1 n.Ja.length k1):=fun w6 hb=>by{refine⟨hL.out.step (((za _ _).alloc (ja _) _).trans (hb.mono ia)),?_⟩;exact((Bb.new wr 56 _).below (hb.mono la)).cell 1});have eh:=da eh;clear hL;generalize CC d.length lo i p q j=ls at*;by_cases dR:Fb d.length n=i;{(have rJ:((Fb d.length n:Nat):Int)==(i:Int):=by simp[dR]);have k_:=hn.some ia;obtain⟨cb,co,rfl⟩:∃cb co,a1=some ⟨cb,co,none⟩:=by{obtain⟨cb,co,e,_⟩:=Xa.one hn.Ja 0 (List.length_pos_iff.2 k_);exact⟨cb,co,e⟩};rw[if_pos dR]at qE;have GV:=da qE;clear qE hn dR k_;go_upto_region 13 with(go_at_call 71;refine(UZ.out _).mono ?_;rintro e w6 ⟨rfl,Sk⟩;rw[wM.out];obtain⟨VZ,z1⟩:=eh.out w6 (by simpa using Sk);have DY:=da VZ;clear VZ Sk);have h6z:=DY.out.below.size;have l_:=da (Fw.out w6 DY.out.below cb co rfl);go_wp2_with (at_builtin;refine Fe Ha _ _ Ha w3.heap.size (.slice sa ls.length sc) ls.length ls Ha DY.out.row n.Ja n.Ja.length rfl ⟨cb,co,none⟩ _ Ha l_.out ia ia ?_;intro v7 w7 fN rE;have WZ:=da (DY.out.Lu fN rE);clear fN rE);go_roundw;(case rel=>exact⟨j+1,ia,by go_num,by rw[GV.out];exact WZ⟩);case measure=>simp[intOf];omega};{(have rJ:(((Fb d.length n:Nat):Int)==(i:Int))=false:=by simpa using(by omega:¬((Fb d.length n:Nat):Int)=(i:Int)));rw[Aa dR,Yc]at qE;have GV:=da qE;clear qE hn dR;go_wp2_with (go_at_call 71;refine(UZ.out _).mono ?_;rintro e w6 ⟨rfl,Sk⟩;rw[wM.out];obtain⟨VZ,z1⟩:=eh.out w6 (by simpa using Sk);have DY:=da VZ;clear VZ Sk);go_roundw;(case rel=>exact⟨j+1,ia,by go_num,by rw[GV.out];exact DY⟩);case measure=>simp[intOf];omega}}
    ·obtain rfl:j=2:=by omega
     have qE:=ER b_.out BV.out (EK.out);rw[EV.out]at qE;have hrow:=hL.out.row
     have h2l:(CC d.length lo i p q 2).length<=3000001:=by{have h1:=AV.out.Yw;have h2:=a_.out.Yw;unfold CC;have q1:=Qu (0<2/\ Fb d.length p=i) p.Ja;have q2:=Qu (1<2/\ Fb d.length q=i) q.Ja;rw[ib,Ea];omega}
     have h2p:0<(CC d.length lo i p q 2).length:=by unfold CC;simp
     have hLB:=da hL.out.below;have xM:Pb d.length ta tb x y<d.length:=by rw[EK.out];exact FK
     obtain⟨s1,s2,s3⟩:=oE gA gB hx hy xM;have KR:=da (fun l=>ZM gA gB (f:=f) c_.out hx hy xM aR.out l);rw[EK.out]at vM;obtain⟨L,m_⟩:∃L,sJ d.length (Pe d) ta tb x y=L:=⟨_,rfl⟩;rw[m_]at qE s1 s2 s3 vM;have XD:=da m_;clear hL m_ xM;generalize CC d.length lo i p q 2=zs at*
     obtain⟨g,Gw,e,hg,KA⟩:=hrow.form h2p;cases e
     have sE:=da (Tryz.slices_Sort_int g 0 sc zs wr (uo hrow) KA ia);have RG:(zs.mergeSort fun x y=>decide (x<=y)).length=zs.length:=Kh _;have tE:=da (fun n os=>uE (Lib.ownsRow_putRow (q:=n) (ys:=zs.mergeSort fun x y=>decide (x<=y)) hrow RG (ja _)) os);generalize(zs.mergeSort fun x y=>decide (x<=y))=ys at*
     have hcap:=tJ hrow;clear hrow;go_upto_region 16 with(go_at_call 72;refine sE.out.mono ?_;rintro e w7 ⟨rfl,n7,os7,hw7⟩;have n_:=da hw7;clear hw7);have rE:wr.grownBy w7 (some g):=by rw[n_.out];exact LA _ _
     have wo:w7.ownsRow w3.heap.size 3 1 (.slice (some ⟨g,0,none⟩) ys.length sc) ys.length (ys.map iW):=by{have q:=tE.out n7 os7;rw[Ac ia, <-n_.out]at q;rw[RG];exact q}
     have uJ:=Tryz.slices_Compact_int g 0 sc ys w7 (uo wo) ia ia;rw[vJ, <-qE]at uJ;have pU:=da (fun q=>Lib.ownsRow_putRow (q:=q) (ys:=L++List.replicate (zs.length-L.length) 0) (k:=L.length) wo (by have:=mE ys;rw[<-qE]at this;simp;omega) (by have:=mE ys;rw[<-qE]at this;omega));rw[RG]at uJ;have xJ:=da uJ;have qp:=da (hLB.out.grown rE hLB.out.size (fun k e=>by cases e;exact hg));have EY:L.length<=1000001:=s2;clear uJ qE RG wo n_ tE sE hcap rE j8;go_upto_region 17 with(go_at_call 73;refine xJ.out.mono ?_;rintro e w8 ⟨rfl,n8,hw8⟩;have Cp:=da hw8;clear hw8);have hg8:w7.grownBy w8 (some g):=by rw[Cp.out];exact Dp _
     have qU:w8.ownsRow w3.heap.size 3 1 (.slice (some ⟨g,0,none⟩) L.length sc) L.length (L.map iW):=by{have q:=pU.out n8;rw[<-Cp.out,List.take_left]at q;exact q}
     have HO8:=da qU;have ei:=da (qp.out.grown hg8 qp.out.size (fun k e=>by cases e;exact hg));have iA:=da (WD.out.below ei.out);have yM:Hid (ld K [] W w8):=HM3.out.trans (ld.Vb ei.out (ja _));have SG:w3.heap.size<=w8.heap.size:=ei.out.size;have HSR:=da s3;have JR:Hid (zV w0 K S w8 ((m,dn),[]) (.slice none 0 0) w8):=⟨iA.out,ld.refl _ _ _,rfl,.inl ⟨rfl,rfl⟩⟩;clear qU Cp pU xJ hg8 hg KA s2 s3;go_upto_region 19 with(fail);have o_:L.length<=9223372036854775807:=by omega
     go_loopw [19,104] (fun kv iv wr=>∃(j:Nat) (r:(List Dn×pe)×List Int),j<=L.length/\ iv=.int .i64 j/\ Hid (r=Rk d ta tb f m dn x y (L.take j))/\ Hid (zV w0 K S w8 r kv wr)) (fun _ iv _=>L.length-(intOf iv).toNat)
     case atStart=>exact⟨0,((m,dn),[]),ia,rfl,rfl,JR⟩
     case round=>
      obtain⟨j,r,hj,rfl,hr,Gh⟩:=hrel;obtain⟨FY,GY,YD⟩:=Wd Gh.out.own;subst YD;have qo:=KR.out (L.take j);rw[<-hr.out]at qo;have rU:r.2.length=j:=by have:=qo.len;rw[Bc]at this;omega
      have q8:=da rU;have rJ:r.2.length<=2000000:=by omega
      have NA:=Gh.out.Al.size
      have Ox:∀b∈xe (.slice FY r.2.length GY)++S,b<wr.heap.size:=fun b hb=>by{(rcases List.mem_append.1 hb with hb | hb);{(have e:(Value.slice FY r.2.length GY).ownBlock=some b:=by unfold xe at hb;simpa using hb);obtain⟨_,cs,h4⟩:=Ie Gh.out.own b e;exact je h4};{have:=Yz.out b hb;have:=Qc.out.size;omega}}
      clear JR rU;by_cases hlt:j<L.length
      ·have hcl:wr.cell? ⟨g,j,none⟩=some (.int .i64 L[j]):=by
        have q:=(yk HO8.out Gh.out.Al ⟨pa,pa⟩ la).cellAt j ia;rw[Kb,Pa hlt]at q;exact q
       have xo:=Qs (d:=d) (ta:=ta) (tb:=tb) (f:=f) (m:=m) (dn:=dn) (x:=x) (y:=y) L j hlt;rw[<-hr.out]at xo;generalize L[j]=v at*
       have agz:i<=1000000:=by omega
       have hzw:w0.heap.size<=w8.heap.size:=iA.out.size;have sA:=Ji gA.dh hx FK (by rw[<-EK.out];exact Uc _ _) v;have sB:=Ji gB.dh hy FK (by rw[<-EK.out];exact ff _ _) v;have fR:i<Pb d.length ta tb (Rc ta x i v) (Rc tb y i v):=by show i<min _ _;omega
       have hle:Pb d.length ta tb (Rc ta x i v) (Rc tb y i v)<=d.length:=Wa (Uc _ _) (ig gA.table sA.1);have XZ:d.length-Pb d.length ta tb (Rc ta x i v) (Rc tb y i v)<f:=by have:=aR.out;rw[EK.out]at this;omega
       have r8:ld K [] w0 wr:=iA.out.iq.trans Gh.out.Al;have hbd:Below wr.heap.size wr wr.drew:=(za _ _).drew;have xM:ld K [] w0 wr.drew:=r8.trans (ld.Vb hbd (ja _));have mH:∀w',ld K [] w0 w'->Below K w0 w':=fun w' h=>h.below ia
       have nH:Hid (ld K [] w0 wr.drew):=xM
       have HSA:Hid (Calls Tryz.prog 74 #[.agg #[.slice (some ⟨gb,go,none⟩) ta.length cg],.int .i64 (x:Int),.int .i64 (i:Int),.int .i64 v] wr.drew fun e w'=>e=.returned (.int .i64 ((Rc ta x i v:Nat):Int))/\ Hid (Below wr.heap.size wr w')/\ Hid (ld K [] w0 w')):=by{refine(vE ta x i v _ _ wr.drew K (by show K<=wr.heap.size;omega) (Xa.below yo.kept (mH _ xM) HE.out.ga) hx (fun hne=>⟨((gA.table x hx).inner hne).2.2.2.2.1,fun k hk=>(((gA.table x hx).inner hne).2.2.2.2.2.2.2 k hk).1⟩)).mono ?_;rintro e w' ⟨rfl,hb⟩;exact⟨rfl,hbd.trans hb,xM.trans (ld.Vb hb (ja _))⟩}
       have YZ:Hid (∀w7,Hid (Below wr.heap.size wr w7)->Calls Tryz.prog 74 #[.agg #[.slice (some ⟨hb,ho,none⟩) tb.length dg],.int .i64 (y:Int),.int .i64 (i:Int),.int .i64 v] w7 fun e w'=>e=.returned (.int .i64 ((Rc tb y i v:Nat):Int))/\ Hid (Below wr.heap.size wr w')/\ Hid (ld K [] w0 w')):=by{intro w7 h7;have hm7:ld K [] w0 w7:=r8.trans (ld.Vb h7.out (ja _));refine(vE tb y i v _ _ w7 K (by have:=h7.out.size;omega) (Xa.below yo.kept (mH _ hm7) HE.out.gb) hy (fun hne=>⟨((gB.table y hy).inner hne).2.2.2.2.1,fun k hk=>(((gB.table y hy).inner hne).2.2.2.2.2.2.2 k hk).1⟩)).mono ?_;rintro e w' ⟨rfl,hb⟩;exact⟨rfl,h7.out.trans (hb.mono h7.out.size),hm7.trans (ld.Vb hb (ja _))⟩}
       have Zp:Rk d ta tb f m dn x y (L.take (j+1))=((bh d ta tb f r.1.1 r.1.2 (Rc ta x i v) (Rc tb y i v)).1,r.2++[((bh d ta tb f r.1.1 r.1.2 (Rc ta x i v) (Rc tb y i v)).2:Int)]):=by{rw[xo];unfold Sv;rw[EK.out];rfl}
       have hq:=fun w8 (h8:Below wr.heap.size wr w8)=>Gt.out (xe (.slice FY r.2.length GY)++S) r.1.1 r.1.2 (Rc ta x i v) (Rc tb y i v) w8 (fun b hb=>by have:=Ox b hb;have:=h8.size;omega) qo.inv (by have:=qo.Yw;omega) sA.1 sB.1 XZ (Gh.out.st.below h8)
       obtain⟨sx,hsx⟩:∃sx,Rc ta x i v=sx:=⟨_,rfl⟩;obtain⟨sy,p_⟩:∃sy,Rc tb y i v=sy:=⟨_,rfl⟩;rw[hsx]at Zp hq HSA;rw[p_]at Zp hq YZ;obtain⟨G,hG⟩:∃G,bh d ta tb f r.1.1 r.1.2 sx sy=G:=⟨_,rfl⟩;rw[hG]at Zp hq;obtain⟨rr,kn⟩:=G;have Rv:=da Zp.symm
       have x8:Hid (∀w8,Hid (Below wr.heap.size wr w8)->Calls Tryz.prog 70 #[.int .i64 (sx:Int),.int .i64 (sy:Int),.pointer (some ⟨K+3,0,none⟩),.pointer (some ⟨PA,0,none⟩),.pointer (some ⟨PB,0,none⟩),.pointer (some ⟨PD,0,none⟩),.pointer (some ⟨K+1,0,none⟩),.pointer (some ⟨K+4,0,none⟩)] w8 fun e w9=>e=.returned (.int .i64 kn)/\ Hid (Cr w0 K (xe (.slice FY r.2.length GY)++S) rr.1 rr.2 w9/\ ld K [] wr w9)/\ Hid (ld K [] w0 w9)):=by{intro w8 h8;refine(hq w8 h8.out).mono ?_;rintro e w9 ⟨rfl,h1,h2⟩;have h3:ld K [] wr w9:=(ld.Vb h8.out (ja _)).trans h2;exact⟨rfl,⟨h1,h3⟩,r8.trans h3⟩}
       have Og:Hid (∀w',ld K [] w0 w'->w'.cell? ⟨K+4,0,none⟩=some (.func (.func 70) #[] #[.pointer (some ⟨K+3,0,none⟩),.pointer (some ⟨PA,0,none⟩),.pointer (some ⟨PB,0,none⟩),.pointer (some ⟨PD,0,none⟩),.pointer (some ⟨K+1,0,none⟩),.pointer (some ⟨K+4,0,none⟩)])/\ w'.cell? ⟨PA,0,none⟩=some (.slice (some ⟨gb,go,none⟩) ta.length cg)/\ w'.cell? ⟨PB,0,none⟩=some (.slice (some ⟨hb,ho,none⟩) tb.length dg)):=fun w' hm=>by{have k1:Bb w' (K+4) 109 _:=hm.keep _ _ HE.out.bv (.inr ⟨rfl,la⟩);have k2:Bb w' PA 34 _:=hm.keep _ _ HE.out.ab (.inr ⟨rfl,la⟩);have k3:Bb w' PB 34 _:=hm.keep _ _ HE.out.bb (.inr ⟨rfl,la⟩);exact⟨k1.cell 0,k2.cell 0,k3.cell 0⟩}
       have agA:r.2.length<=2000000:=rJ;clear Zp hq hG hsx p_ xo sA sB fR hle XZ r8 hbd xM mH qo Ox;go_upto_region 21 with(fail);refine wp_region_held_drew (S:=(fun w':World=>Hid (ld K [] w0 w'))) Ca nH (fun Xb=>?_);refine tp 0 ?_;refine tk 1 ?v1 ?y1 ?_
       case y1=>(intro w9 Pg;obtain⟨y0,y1,y2⟩:=Og.out w9 Pg.out;go_simp;try with_reducible rfl)
       refine tk 2 ?v2 ?y2 ?_
       case y2=>(intro w9 Pg;obtain⟨y0,y1,y2⟩:=Og.out w9 Pg.out;go_simp;try with_reducible rfl)
       refine tp 3 ?_;refine tp 4 ?_;refine tp 5 ?_;refine tk 7 ?v7 ?y7 ?_
       case y7=>(intro w9 Pg;obtain⟨y0,y1,y2⟩:=Og.out w9 Pg.out;go_simp;try with_reducible rfl)
       refine tp 8 ?_;refine tp 9 ?_;refine tp 10 ?_;refine tr 6 (fun K hK=>?_)
       (go_simp;go_at_call 74;refine HSA.out.mono ?_;rintro e w7 ⟨rfl,qp,sU⟩)
       refine hK.out _ _ ?_ (fun Xb=>?_)
       {exact sU}
       clear hK K
       try simp only[Act.put,sA,sB,sC]
       refine tr 11 (fun K hK=>?_)
       (go_simp;go_at_call 74;refine(YZ.out w7 qp).mono ?_;rintro e wb ⟨rfl,HBb,HMb⟩)
       refine hK.out _ _ ?_ (fun Xb=>?_)
       {exact HMb}
       clear hK K
       try simp only[Act.put,sA,sB,sC]
       refine tr 12 (fun K hK=>?_)
       (go_simp;go_at_call 70;refine(x8.out wb HBb).mono ?_;rintro e w9 ⟨rfl,Hw,iR⟩)
       refine hK.out _ _ ?_ (fun Xb=>?_)
       {exact iR}
       clear hK K
       try simp only[Act.put,sA,sB,sC]
       refine tr 13 (fun K hK=>?_)
       go_simp
       refine hK.out _ _ ?_ (fun Xb=>?_)
       {exact iR.out.alloc _}
       clear hK K
       try simp only[Act.put,sA,sB,sC]
       refine tr 14 (fun K hK=>?_)
       (refine bn (xs:=r.2) (Gh.out.aN Hw.out _) Ha _ _ Ha Ha ⟨w9.heap.size,0,none⟩ Ha (by have:=Hw.out.2.size;rw[Ba];omega) ia (kn:Int) ((Bb.new _ _ _).cell 0) ?_;intro g10 IY Ei pE IK IV;have oH:=da (Gh.out.Lu NZ ia Hw.out IK rfl IV pE))
       refine hK.out _ _ ?_ (fun Xb=>?_)
       {exact(iA.out.iq.trans oH.out.Al)}
       clear hK K
       try simp only[Act.put,sA,sB,sC]
       refine tp 15 ?_;refine wpAnyH_done Ca ?_ _;go_wp2;go_roundw
       case rel=>exact⟨j+1,(rr,r.2++[(kn:Int)]),ia,by go_num,Rv,oH⟩
       case measure=>simp[intOf];omega
      ·have Mk:j=L.length:=by omega
       have hrg:=hr.out;rw[Mk,Jb]at hrg;have hgg:=Ft.out.symm.trans vM.out;rw[<-hrg]at hgg;obtain⟨q9,q_⟩:∃q9,Mc r.1.1 i L r.2=q9:=⟨_,rfl⟩;rw[q_]at hgg;have BV:=da hgg;have OA:L.length=r.2.length:=by have:=q8.out;omega
       have r_:r.1.1.length<=30000:=by have:=Mx qo.inv.made;have:=qo.Yw;omega
       have hkk:∀z∈r.2,0<=z/\ z<=30000:=fun z hz=>by{obtain⟨k,hk,rfl⟩:=zb hz;have:=qo.kids k hk;rw[Eb _ _ _ hk]at this;omega}
       have hpos:0<r.2.length:=by omega
       have hin:=QA K K (xe (.slice FY r.2.length GY)++S) r.1.1 i L r.2 (.slice (some ⟨g,0,none⟩) L.length sc) (.slice FY r.2.length GY) wr Gh.out.st.is (rh (yk HO8.out Gh.out.Al ⟨pa,pa⟩ la)) (rh Gh.out.own) Ox
        ia (fun e=>by rw[e]at hpos;simp at hpos) OA ia ia (fun z hz=>by have:=HSR.out z hz;exact⟨ia,ia⟩) (fun z hz=>by have:=hkk z hz;exact⟨ia,ia⟩)
        (by
         rw[Eb _ _ _ hpos]
         exact(hkk _ (Ga _)).1) (HE.out.Nx.on (Gh.out.st.iq.below ia))
       rw[q_]at hin;have HQ:=da hin;have JV:=(Gh.out.st.blk HE.out.mv ⟨pa,pa⟩).cell 0;have nH:Hid (ld K [] W wr):=yM.out.trans Gh.out.Al;clear hin hgg hrg q_ qo OA Ox Mk hkk hpos r_;go_upto_region 24 with(go_at_call 46;refine HQ.out.mono ?_;rintro e w11 ⟨rfl,h2,h3⟩;have KV:=da (Gh.out.st.step h3 h2);have s_:=da h3.s;clear h2 h3);have t_:=(KV.out.blk HE.out.dv ⟨pa,pa⟩).cell 0;obtain⟨mp2,hm2,gN⟩:=KV.out.Cj;obtain⟨W2,RA,LR,iN⟩:=pH Tryz.underlying108 hm2 (x,y) (q9.2:Int);have ady:(Instr.mapUpdate 108 (.map (some (K+2))) (.agg #[.int .i64 (x:Int),.int .i64 (y:Int)]) (.int .i64 (q9.2:Int))).run Tryz.prog w11=.ok () W2:=RA;have tU:=da (KV.out.jN gN iN LR hm2);clear gN LR iN JV hm2 RA;go_wp2;go_ret;rw[BV.out];exact⟨rfl,tU.out.1.less (fun k hk=>td _ hk),(nH.out.trans s_.out).trans tU.out.2⟩
section
theorem xE {w0:World}{K PA PB PD:Nat}{d:List Fa}{ta tb:List Dn}{va vb vd:Value}(hE:DR w0 K PA PB PD d ta tb va vb vd)(gA:te d ta)(gB:te d tb):∀f,f<=90->nU w0 K PA PB PD d ta tb f
 | 0,_=>fun S m dn x y W _ _ _ _ _ hf=>absurd hf (Ib _)
 | f+1,hf=>by{intro S m dn x y W hS hI hm hx hy Tu hst;cases hk:dn.lookup (x,y)with| some k=>{have e:bh d ta tb (f+1) m dn x y=((m,dn),k):=by{unfold bh ui;rw[hk]};rw[e];exact YM hE x y m dn k hk W hst}| none=>exact bN hE gA gB f ia (xE hE gA gB f ia) S m dn x y W hS hI hm hx hy Tu hk hst}
theorem ZZ {d:List Fa}{ta tb:List Dn}(vA:te d ta)(vB:te d tb):SA d.length (Pe d) (Mh d) ta tb (ug d ta) (ug d tb) 20000 (d.length+1) [] 0 0 (Sf d ta tb):=
 nE vA.dh vB.dh (fun _ _ hx hy hi=>JA vA.dh vB.dh hx hy hi) (d.length+1) [] [] 0 0 (yE 20000) vA.pos vB.pos ia
def Yr (d:List Fa)(a b:List Dn):List Dn×Int:=if Re d a=true/\ Re d b=true then(if 20000<(Sf d a b).1.1.length then([],2)else(Zh d a b,0))else([],1)
theorem JK {d:List Fa}{a b:List Dn}(h:MR d a b):Yr d a b=(Zh d a b,0):=by
 obtain⟨_,_,_,hl⟩:=Px h;unfold Yr;rw[if_pos ⟨Nh.2 h.va,Nh.2 h.vb⟩,Aa ia]
theorem NR (W:World)(PA PB PD:Nat)(d:List Fa)(ta tb:List Dn)(va vb vd:Value)(X7:Bb W PA 34 #[va])(hpb:Bb W PB 34 #[vb])(QZ:Bb W PD 27 #[vd])(ga:Xa yo 4 W W.heap.size ta va)(gb:Xa yo 4 W W.heap.size tb vb)(hd:Xa Iw 4 W W.heap.size d vd)(hT:tm W.heap.size W):
  ∃w0,w0=(((((W.alloc (.cells #[.slice none 0 0,.map none] 70)).alloc (.cells #[.pointer (some ⟨W.heap.size,0,none⟩)] 65)).alloc (.map #[] 0)).alloc (.cells #[.map (some (W.heap.size+1+1))] 108)).alloc (.cells #[.func (.func 70) #[] #[.pointer (some ⟨W.heap.size+3,0,none⟩),.pointer (some ⟨PA,0,none⟩),.pointer (some ⟨PB,0,none⟩),.pointer (some ⟨PD,0,none⟩),.pointer (some ⟨W.heap.size+1,0,none⟩),.pointer (some ⟨W.heap.size+4,0,none⟩)]] 109))/\ DR w0 W.heap.size PA PB PD d ta tb va vb vd/\ Cr w0 W.heap.size [] [] [] w0/\ Below W.heap.size W w0/\ w0.heap.size=W.heap.size+5:=by
 have b1:Below W.heap.size W (((((W.alloc (.cells #[.slice none 0 0,.map none] 70)).alloc (.cells #[.pointer (some ⟨W.heap.size,0,none⟩)] 65)).alloc (.map #[] 0)).alloc (.cells #[.map (some (W.heap.size+1+1))] 108)).alloc (.cells #[.func (.func 70) #[] #[.pointer (some ⟨W.heap.size+3,0,none⟩),.pointer (some ⟨PA,0,none⟩),.pointer (some ⟨PB,0,none⟩),.pointer (some ⟨PD,0,none⟩),.pointer (some ⟨W.heap.size+1,0,none⟩),.pointer (some ⟨W.heap.size+4,0,none⟩)]] 109)):=(((((za _ _).alloc (ja _) _).alloc la _).alloc (by simp;omega) _).alloc (by simp;omega) _).alloc (by simp;omega) _;have h0:=((((Bb.new W 70 #[.slice none 0 0,.map none]).alloc (.cells #[.pointer (some ⟨W.heap.size,0,none⟩)] 65)).alloc (.map #[] 0)).alloc (.cells #[.map (some (W.heap.size+1+1))] 108)).alloc (.cells #[.func (.func 70) #[] #[.pointer (some ⟨W.heap.size+3,0,none⟩),.pointer (some ⟨PA,0,none⟩),.pointer (some ⟨PB,0,none⟩),.pointer (some ⟨PD,0,none⟩),.pointer (some ⟨W.heap.size+1,0,none⟩),.pointer (some ⟨W.heap.size+4,0,none⟩)]] 109);have h1:=(((Bb.new (W.alloc (.cells #[.slice none 0 0,.map none] 70)) 65 #[.pointer (some ⟨W.heap.size,0,none⟩)]).alloc (.map #[] 0)).alloc (.cells #[.map (some (W.heap.size+1+1))] 108)).alloc (.cells #[.func (.func 70) #[] #[.pointer (some ⟨W.heap.size+3,0,none⟩),.pointer (some ⟨PA,0,none⟩),.pointer (some ⟨PB,0,none⟩),.pointer (some ⟨PD,0,none⟩),.pointer (some ⟨W.heap.size+1,0,none⟩),.pointer (some ⟨W.heap.size+4,0,none⟩)]] 109);have h3:=(Bb.new (((W.alloc (.cells #[.slice none 0 0,.map none] 70)).alloc (.cells #[.pointer (some ⟨W.heap.size,0,none⟩)] 65)).alloc (.map #[] 0)) 108 #[.map (some (W.heap.size+1+1))]).alloc (.cells #[.func (.func 70) #[] #[.pointer (some ⟨W.heap.size+3,0,none⟩),.pointer (some ⟨PA,0,none⟩),.pointer (some ⟨PB,0,none⟩),.pointer (some ⟨PD,0,none⟩),.pointer (some ⟨W.heap.size+1,0,none⟩),.pointer (some ⟨W.heap.size+4,0,none⟩)]] 109);have h4:=Bb.new ((((W.alloc (.cells #[.slice none 0 0,.map none] 70)).alloc (.cells #[.pointer (some ⟨W.heap.size,0,none⟩)] 65)).alloc (.map #[] 0)).alloc (.cells #[.map (some (W.heap.size+1+1))] 108)) 109 #[.func (.func 70) #[] #[.pointer (some ⟨W.heap.size+3,0,none⟩),.pointer (some ⟨PA,0,none⟩),.pointer (some ⟨PB,0,none⟩),.pointer (some ⟨PD,0,none⟩),.pointer (some ⟨W.heap.size+1,0,none⟩),.pointer (some ⟨W.heap.size+4,0,none⟩)]]
 have h2:((((((W.alloc (.cells #[.slice none 0 0,.map none] 70)).alloc (.cells #[.pointer (some ⟨W.heap.size,0,none⟩)] 65)).alloc (.map #[] 0)).alloc (.cells #[.map (some (W.heap.size+1+1))] 108)).alloc (.cells #[.func (.func 70) #[] #[.pointer (some ⟨W.heap.size+3,0,none⟩),.pointer (some ⟨PA,0,none⟩),.pointer (some ⟨PB,0,none⟩),.pointer (some ⟨PD,0,none⟩),.pointer (some ⟨W.heap.size+1,0,none⟩),.pointer (some ⟨W.heap.size+4,0,none⟩)]] 109))).heap[W.heap.size+2]? =some (.map #[] 0):=by{have q:=World.alloc_heap_new ((W.alloc (.cells #[.slice none 0 0,.map none] 70)).alloc (.cells #[.pointer (some ⟨W.heap.size,0,none⟩)] 65)) (.map #[] 0);simp only[Ba]at q;rw[Tb _ _ _ la,Tb _ _ _ la];exact q}
 simp only[Ba]at h1 h3 h4;refine⟨_,rfl,⟨h1,h3,h4,X7.below b1,hpb.below b1,QZ.below b1,X7.lt,hpb.lt,QZ.lt,Xa.below yo.kept b1 ga,Xa.below yo.kept b1 gb,Xa.below Iw.kept b1 hd,hT.on b1,la⟩,⟨ld.refl _ _ _,⟨ja _,⟨.slice none 0 0,none,[],h0,ic _ _ _ _,rfl,la,.inl ⟨rfl,rfl⟩⟩,la⟩,?_,[],⟨#[],0,h2,rfl⟩,fun k=>rfl⟩,b1,la⟩;rw[h0.cell 1];simp
attribute [local go_sem] Oh
theorem kN {ta tb:List Dn}{d:List Fa}{w:World}{va vb u:Value}(ha:oe w w.heap.size ta va)(hb:oe w w.heap.size tb vb)(hd:bf w w.heap.size d u)(hT:tm w.heap.size w)(Gq:∀n∈ta,Rs n)(zE:∀n∈tb,Rs n):
  Calls Tryz.prog 24 #[va,vb,u] w fun e w'=>∃(x:Option Addr) (k:Nat),e=.returned (.tuple #[.agg #[.slice x (Yr d ta tb).1.length k],.int .i64 (Yr d ta tb).2])/\ oe w' w'.heap.size (Yr d ta tb).1 (.agg #[.slice x (Yr d ta tb).1.length k])/\ Below w.heap.size w w':=by
 by_cases hv:Re d ta=true/\ Re d tb=true
 {obtain⟨Mu,Hn⟩:=hv;have gA:=Nh.1 Mu;have gB:=Nh.1 Hn;have hX:=ZZ gA gB;have hdl:=(mg gA.dom).len;obtain⟨R,hR⟩:∃R,Yr d ta tb=R:=⟨_,rfl⟩;rw[hR];(have jA:R=if 20000<(Sf d ta tb).1.1.length then([],2)else(Zh d ta tb,0):=by rw[<-hR];unfold Yr;rw[if_pos ⟨Mu,Hn⟩]);have HR:=da jA;have HX:=da hX;have JY:=da gA;have z8:=da gB;clear hR jA hX gA gB;have jR:=ha;have Ff:=hb;have GC:=hd;obtain⟨_,rfl,h1⟩:=ha;obtain⟨_,rfl,h2⟩:=hb;obtain⟨_,rfl,h3⟩:=hd;obtain⟨aa,ca,rfl,_⟩:=Xa.shape h1;obtain⟨ab,cb,rfl,_⟩:=Xa.shape h2;obtain⟨ad,cd,rfl,_⟩:=Xa.shape h3;obtain⟨HE,HA,HB,HD,HK⟩:=TA jR Ff GC hT;clear jR Ff GC h1 h2 h3 hT;obtain⟨W,hW⟩:∃W,((((w.alloc (.cells #[.slice aa ta.length ca] 34)).alloc (.cells #[.slice ab tb.length cb] 34)).alloc (.cells #[.slice ad d.length cd] 27)).alloc (.cells #[.slice none 0 0] 34))=W:=⟨_,rfl⟩;rw[hW]at HE HA HB HD HK;have HW:=da hW;clear hW;have Yi:Hid (Below W.heap.size W W):=za _ _;(have Og:Hid (∀w',Hid (Below W.heap.size W w')->w'.cell? ⟨w.heap.size,0,none⟩=some (.slice aa ta.length ca)/\ w'.cell? ⟨w.heap.size+1,0,none⟩=some (.slice ab tb.length cb)/\ w'.cell? ⟨w.heap.size+1+1,0,none⟩=some (.slice ad d.length cd)):=fun w' hb=>⟨(HA.out.box.below hb.out).cell 0,(HB.out.box.below hb.out).cell 0,(HD.out.box.below hb.out).cell 0⟩);have TG:=da (fun w' (hb:Hid (Below W.heap.size W w'))=>zo HE HA HD Gq hb);have Xw:=da (fun w' (hb:Hid (Below W.heap.size W w'))=>zo HE HB HD zE hb);obtain⟨x0,y0,z0⟩:=Og.out W Yi;rw[Mu]at TG;rw[Hn]at Xw;have PR:=@run_makeMap Tryz.prog;clear Gq zE Mu Hn;go_enter Tryz.func24,Tryz.ntmps24;go_upto_region 1 with(fail);rw[HW.out];go_upto_region 3 with(first | (go_at_call_of 15 aa;refine(TG.out _ Yi).mono ?_;rintro e w1 ⟨rfl,Ve⟩;(clear x0 y0 z0;obtain⟨x0,y0,z0⟩:=Og.out _ Da)) | (go_at_call_of 15 ab;refine(Xw.out _ Ve).mono ?_;rintro e w2 ⟨rfl,Vd⟩;(clear x0 y0 z0;obtain⟨x0,y0,z0⟩:=Og.out _ Da)));have UG:=da (HE.out.step Vd.out);have Es:=da (HA.out.step Vd.out);have j0:=da (HB.out.step Vd.out);have VG:=da (HD.out.step Vd.out);have Dj:=da (HK.out.below Vd.out);have hwz:w.heap.size+1+1+1<w2.heap.size:=Dj.out.lt;clear TG Xw Yi Ve Vd Og x0 y0 z0 HE HA HB HD HK HW;obtain⟨_,ea,KY⟩:=Es.out.dg;(cases ea);obtain⟨_,eb,Xr⟩:=j0.out.dg;(cases eb);obtain⟨_,ed,Jw⟩:=VG.out.dom;(cases ed);obtain⟨w0,hw0,hE,Kw,hb0,LY⟩:=NR w2 w.heap.size (w.heap.size+1) (w.heap.size+1+1) d ta tb _ _ _ Es.out.box j0.out.box VG.out.box KY Xr Jw UG.out.Nx;have HW0:=da hw0;have HEV:=da hE;have lN:=da Kw;have Yi:=da hb0;have x8:Hid (Calls Tryz.prog 70 #[.int .i64 0,.int .i64 0,.pointer (some ⟨w2.heap.size+3,0,none⟩),.pointer (some ⟨w.heap.size,0,none⟩),.pointer (some ⟨w.heap.size+1,0,none⟩),.pointer (some ⟨w.heap.size+1+1,0,none⟩),.pointer (some ⟨w2.heap.size+1,0,none⟩),.pointer (some ⟨w2.heap.size+4,0,none⟩)] w0 fun e w8=>e=.returned (.int .i64 ((Sf d ta tb).2:Nat))/\ Hid (Cr w0 w2.heap.size [] (Sf d ta tb).1.1 (Sf d ta tb).1.2 w8)):=by{have q:=xE hE JY.out z8.out (d.length+1) ia [] [] [] 0 0 w0 la (yE 20000) (by unfold sk;simp) JY.out.pos z8.out.pos ia Kw;refine q.mono ?_;rintro e w8 ⟨rfl,h4,_⟩;exact⟨rfl,h4⟩};have fz:=HEV.out.bv.cell 0;clear hw0 hE Kw hb0 KY Xr Jw hdl;go_upto_region 7 with(fail);rw[<-HW0.out];go_upto_region 8 with(go_at_call 70;refine x8.out.mono ?_;rintro e w8 ⟨rfl,iA⟩);have Vh:Below w2.heap.size w2 w8:=Yi.out.trans (iA.out.iq.below ia);have u_:=(iA.out.blk HEV.out.mv ⟨pa,pa⟩).cell 0;obtain⟨_,⟨mv,mo,xs,g1,g2,g3,_⟩,_⟩:=iA.out.is;obtain⟨ma,mc,kH⟩:=Wd g2;(have xq:xs.length=(Sf d ta tb).1.1.length:=by rw[<-g3,Sa]);subst kH;have QG:=g1.cell 0;rw[xq]at QG;have kR:=da (Dj.out.below Vh);have ei:=da (UG.out.low.trans (Vh.mono UG.out.low.size));have y8:=kR.out.cell 0;have f8:=kR.out.frozen 0;have Lx:(Sf d ta tb).1.1.length<=30000:=by{have q1:=Mx HX.out.inv.made;have q2:=HX.out.Yw;have q3:sk ([]:List Dn)=0:=rfl;have q4:=(mg JY.out.dom).len;rw[q3]at q2;omega};clear g1 g2 g3 xq fz x8 Vh;by_cases hlim:20000<(Sf d ta tb).1.1.length;{have Fi:=HR.out;rw[if_pos hlim]at Fi;have Ss:=da Fi;(have hdd:decide ((20000:Int)<((Sf d ta tb).1.1.length:Int))=true:=by simp;omega);clear Fi HR;go_wp2;have hcs:=(kR.out.set 0 (.slice none 0 0)).cell 0;refine Qa (by simp[results,Tryz.results24,go_sem,hcs];try rfl) rfl ?_;rw[Ss.out];exact⟨none,0,rfl,oe.nil _ _,ei.out.setCell (p:=⟨w.heap.size+1+1+1,0,none⟩) (by show w.heap.size<=w.heap.size+1+1+1;omega) _⟩};{have Fi:=HR.out;rw[Aa hlim]at Fi;have Ss:=da Fi;(have hdd:decide ((20000:Int)<((Sf d ta tb).1.1.length:Int))=false:=by simp;omega);have Zz:Hid (Calls Tryz.prog 47 #[.pointer (some ⟨w2.heap.size,0,none⟩),.int .i64 ((Sf d ta tb).2:Nat)] w8 fun e W'=>∃(au:Option Addr) (cu:Nat),e=.returned (.tuple #[.agg #[.slice au (Zh d ta tb).length cu],.int .i64 0])/\ Hid (oe W' W'.heap.size (Zh d ta tb) (.agg #[.slice au (Zh d ta tb).length cu]))/\ Hid (Below w8.heap.size w8 W')):=by{have q:=Qx (Sf d ta tb).1.1 w2.heap.size w2.heap.size [] (Sf d ta tb).2 w8 iA.out.is HX.out.inv.made.table HX.out.lt ia (fun n hn=>by have:=(Sj (mg JY.out.dom) HX.out.inv.made.table n hn).1;omega);refine q.mono ?_;rintro e W' ⟨_,rfl,⟨u,rfl,h1⟩,h2⟩;obtain⟨au,cu,rfl,_⟩:=Xa.shape h1;exact⟨au,cu,rfl,⟨_,rfl,h1⟩,h2⟩};clear Fi HR;go_wp2_with (go_at_call 47;refine Zz.out.mono ?_;rintro e w9 ⟨au,cu,rfl,zM,Ul⟩;clear y8 f8;have c9:=(kR.out.below Ul.out).cell 0;have z9:=(kR.out.below Ul.out).frozen 0;have CE:=da (kR.out.below Ul.out));have hcs:=(CE.out.set 0 (.slice au (Zh d ta tb).length cu)).cell 0;refine Qa (by simp[results,Tryz.results24,go_sem,hcs];try rfl) rfl ?_;have hs9:=Ul.out.size;have SG:=ei.out.size;rw[Ss.out];refine⟨au,cu,rfl,?_,(ei.out.trans (Ul.out.mono SG)).setCell (p:=⟨w.heap.size+1+1+1,0,none⟩) (by show w.heap.size<=w.heap.size+1+1+1;omega) _⟩;rw[mf];exact zM.out.set CE.out _}}
 ·have hno:(Re d ta&& Re d tb)=false:=by
   cases h1:Re d ta<;>cases h2:Re d tb<;>simp_all
  have e:Yr d ta tb=([],1):=by unfold Yr;rw[Aa hv]
  rw[e];refine(mN ha hb hd hT Gq zE hno).mono ?_;rintro e w' ⟨rfl,hb⟩;exact⟨none,0,rfl,oe.nil _ _,hb⟩
theorem QR {w0 W w:World}{ta tb:List Dn}{d:List Fa}{b b' A8:Nat}{aa ab ad:Option Addr}{ca cb cd:Nat}(HE:Hid (AM w0 W))(HA:Hid (Ep W b ta aa ca))(HB:Hid (Ep W b' tb ab cb))(HD:Hid (qH W A8 d ad cd))(Gq:∀n∈ta,Rs n)(zE:∀n∈tb,Rs n)(hW:Hid (Below W.heap.size W w)):
  Calls Tryz.prog 24 #[.agg #[.slice aa ta.length ca],.agg #[.slice ab tb.length cb],.agg #[.slice ad d.length cd]] w fun e w'=>∃(x:Option Addr) (k:Nat),e=.returned (.tuple #[.agg #[.slice x (Yr d ta tb).1.length k],.int .i64 (Yr d ta tb).2])/\ Hid (oe w' w'.heap.size (Yr d ta tb).1 (.agg #[.slice x (Yr d ta tb).1.length k]))/\ Hid (Below W.heap.size W w'):=by
 refine(kN (HA.out.step hW.out).dg (HB.out.step hW.out).dg (HD.out.step hW.out).dom (HE.out.step hW.out).Nx Gq zE).mono ?_;rintro e w' ⟨x,k,rfl,h1,h2⟩;exact⟨x,k,rfl,h1,jh hW h2⟩
end
end Go.Proofs.YtejbgoigkefnfaaGreatDoor
