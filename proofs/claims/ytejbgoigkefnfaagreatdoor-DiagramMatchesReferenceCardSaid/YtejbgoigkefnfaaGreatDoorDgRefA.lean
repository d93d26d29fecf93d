/- The walk of pandectref11.and. Bounds on the nodes. -/
import Derived.Test.YtejbgoigkefnfaaGreatDoorAl
import Derived.Test.YtejbgoigkefnfaaGreatDoorRfJ
import Derived.Test.YtejbgoigkefnfaaGreatDoorRfH
namespace Go.Proofs.YtejbgoigkefnfaaGreatDoor
open Go.RowKit
def ZO (H K DM B:Nat)(RS:List Nat)(d:List Fa)(ta tb:List Dn)(aa:Option Addr)(ca:Nat)(ab:Option Addr)(cb:Nat)(ad:Option Addr)(cd:Nat)(f:Nat):Prop:=
 ∀(S:List Nat) (m:List Dn) (dn:pe) (M:List (List Int)) (x y:Nat) (W:World),(∀b∈S,b<W.heap.size)->K∈S->(∀r∈RS,r∈S)->xI d ta tb m dn->Jk d.length ta tb m dn M->Yn ta.length tb.length M->pt ta tb x y->d.length-Pb d.length ta tb x y<f->Hi W H K S m->Gv W DM RS tb.length M->
  Xa yo 4 W B ta (.slice aa ta.length ca)->Xa yo 4 W B tb (.slice ab tb.length cb)->bf W B d (.agg #[.slice ad d.length cd])->
  Calls Tryz.prog 75 #[.pointer (some ⟨K,0,none⟩),.agg #[.slice aa ta.length ca],.agg #[.slice ab tb.length cb],.int .i64 (x:Int),.int .i64 (y:Int),.agg #[.slice ad d.length cd],.slice (some ⟨DM,0,none⟩) ta.length ta.length] W fun e W'=>e=.returned (.int .i64 ((bh d ta tb f m dn x y).2:Nat))/\ ∃M',Hi W' H K S (bh d ta tb f m dn x y).1.1/\ Gv W' DM RS tb.length M'/\ Jk d.length ta tb (bh d ta tb f m dn x y).1.1 (bh d ta tb f m dn x y).1.2 M'/\ Yn ta.length tb.length M'/\ ld H (K::RS) W W'/\ Js (K::RS) K W W'
structure QW (W wx : World) (H K DM : Nat) (RS S : List Nat) (d : List Fa) (ta tb : List Dn) (m2 : List Dn) (NU : pe) (M1 : List (List Int)) (x y k : Nat) : Prop where
 tbl:Hi wx H K S m2
 mt:Gv wx DM RS tb.length M1
 Cj:Jk d.length ta tb m2 NU (qt M1 x y ((k:Int)+1))
 form:Yn ta.length tb.length M1
 Al:ld H (K::RS) W wx
 lt:k<m2.length
 kp:Js (K::RS) K W wx
theorem BL {W W5 w6:World}{H K DM:Nat}{RS S:List Nat}{d:List Fa}{ta tb:List Dn}{m2:List Dn}{NU:pe}{M:List (List Int)}{x y k:Nat}(fe:Below W.heap.size W W5)(RB:Gv W DM RS tb.length M)(OU:DM≠K)(PU:K∉RS)(h6:Hi w6 H K S m2)(s6:ld H [K] W5 w6/\ Js [K] K W5 w6)(nR:K<W.heap.size)
  (hm:Jk d.length ta tb m2 NU (qt M x y ((k:Int)+1))) (hf:Yn ta.length tb.length M) (hk:k<m2.length):QW W w6 H K DM RS S d ta tb m2 NU M x y k:=
 ⟨h6,(RB.below fe (ja _)).Al s6.1 (fun h=>OU (List.mem_singleton.1 h)) (fun r hr e=>PU (List.mem_singleton.1 e▸hr)),hm,hf,((ld.Vb fe (ja _)).trans s6.1).more (fun b hb=>by rw[List.mem_singleton.1 hb];exact Na ..),hk,(Js.Vb fe nR).trans (s6.2.more (fun b hb=>by rw[List.mem_singleton.1 hb];exact Na ..)) fe.size⟩
theorem DL {nf:Nat}{ta tb m:List Dn}{dn:pe}{M:List (List Int)}{x y:Nat}{n:Dn}(cA:SB ta tb x y=n)(hm:Jk nf ta tb m dn M)(hF:Yn ta.length tb.length M)(hx:pt ta tb x y)(hk:dn.lookup (x,y)=none)(hr:Pb nf ta tb x y=nf):Jk nf ta tb (Md m n).1 dn (qt M x y (((Md m n).2:Nat)+1)):=by
 obtain⟨a1,a2,u,a3⟩:=fD m n;refine yI ?_ hF hx hk hr a1 (a2.trans cA.symm);have:=hm.more u;rw[<-a3]at this;exact this
set_option maxRecDepth 100000 in
set_option maxHeartbeats 40000000 in
theorem EL {H K DM B:Nat}{RS:List Nat}{d:List Fa}{ta tb:List Dn}{aa:Option Addr}{ca:Nat}{ab:Option Addr}{cb:Nat}{ad:Option Addr}{cd:Nat}(gA:te d ta)(gB:te d tb)(uu:ta.length*tb.length<=19998)(hB:B<=H)(QM:RS.length=ta.length)(cZ:∀r∈RS,H<=r)(PU:K∉RS)(OU:DM≠K)(lL:∀n∈ta,n.Ja.length<=1000)(NJ:∀n∈tb,n.Ja.length<=1000)(f:Nat)
  (IH:ZO H K DM B RS d ta tb aa ca ab cb ad cd f):ZO H K DM B RS d ta tb aa ca ab cb ad cd (f+1):=by
 intro S m dn M x y W PG ZS x9 hI dZ hF hx Tu QU RB hA TB hD;obtain⟨hx1,aT⟩:=hx;have nR:=QU.lt;have hHK:=QU.ge;obtain⟨gb,go,rfl,vU,vpc,vpk,n0,n1,n2,n3,hpc,hpk⟩:=hA.at x hx1;obtain⟨hb,ho,rfl,hhB,vqc,vqk,m0,m1,m2,m3,IR,ZQ⟩:=TB.at y aT;obtain⟨pc,gD,rfl, -, -, -⟩:=Xa.shape hpc;obtain⟨pk,LF,rfl, -, -, -⟩:=Xa.shape hpk;obtain⟨qc,eE,rfl, -, -, -⟩:=Xa.shape IR;obtain⟨qk,eH,rfl, -, -, -⟩:=Xa.shape ZQ;have D3:=hpc;have cN:ta.getD x default=ta[x]:=Eb _ _ _ hx1;have oU:tb.getD y default=tb[y]:=Eb _ _ _ aT;have pp:=gA.table x hx1;have pq:=gB.table y aT;have aih:=lL _ (Ga hx1);have aii:=NJ _ (Ga aT);rw[cN]at pp;rw[oU]at pq;generalize hp:ta[x]=p at*
 generalize hq:tb[y]=q at*
 have UJ:x<RS.length:=by omega
 have yR:B<=W.heap.size:=by omega
 have Lc:Below W.heap.size W (((W.alloc (.cells #[.slice (some ⟨gb,go,none⟩) ta.length ca] 34)).alloc (.cells #[.slice (some ⟨hb,ho,none⟩) tb.length cb] 34)).alloc (.cells #[.slice ad d.length cd] 27)):=(((za _ _).alloc (ja _) _).alloc la _).alloc (by simp;omega) _;have hb4:Below W.heap.size W ((((W.alloc (.cells #[.slice (some ⟨gb,go,none⟩) ta.length ca] 34)).alloc (.cells #[.slice (some ⟨hb,ho,none⟩) tb.length cb] 34)).alloc (.cells #[.slice ad d.length cd] 27)).alloc (.cells #[.int .i64 p.fact,.slice pc p.Ja.length gD,.slice pk p.kids.length LF,.bool p.leaf] 56)):=Lc.alloc Lc.size _;have fe:Below W.heap.size W (((((W.alloc (.cells #[.slice (some ⟨gb,go,none⟩) ta.length ca] 34)).alloc (.cells #[.slice (some ⟨hb,ho,none⟩) tb.length cb] 34)).alloc (.cells #[.slice ad d.length cd] 27)).alloc (.cells #[.int .i64 p.fact,.slice pc p.Ja.length gD,.slice pk p.kids.length LF,.bool p.leaf] 56)).alloc (.cells #[.int .i64 q.fact,.slice qc q.Ja.length eE,.slice qk q.kids.length eH,.bool q.leaf] 56)):=hb4.alloc hb4.size _
 have rU:(M.getD x []).length=tb.length:=by{(have hl:x<M.length:=by rw[hF.1];exact hx1);rw[Ra,Pa hl];exact hF.2 _ (Ga hl)}
 have d0:=(RB.below Lc (ja _)).cell UJ;have d1:=(RB.below Lc (ja _)).at UJ rU aT;have xq:(x:Int)<(ta.length:Int):=by omega
 have hyl:(y:Int)<(tb.length:Int):=by omega
 have ZY:(0:Int)<=(x:Int):=Ab x;have hy0:(0:Int)<=(y:Int):=Ab y
 have lDM:DM<W.heap.size:=by{obtain⟨cs,q1,_⟩:=RB.out;exact q1.lt}
 have lRX:=RB.lt UJ;obtain⟨mv,qJ⟩:∃mv,(M.getD x []).getD y 0=mv:=⟨_,rfl⟩;rw[qJ]at d1;have HP:Hid (ta.getD x default=p):=cN;have HQ:Hid (tb.getD y default=q):=oU;have HPP:=da pp;have HPQ:=da pq;have vu:Hid (pt ta tb x y):=⟨hx1,aT⟩;have HI:=da hI;have HMM:=da dZ;have HF:=da hF;have aR:=da Tu;have Zv:=da QU;have eZ:=da RB;have HA:=da hA;have Vd:=da TB;have HD:=da hD;have Gt:=da IH;have Yz:=da PG;have RW:=da x9;have aij:=da QM;have E3:=da cZ;have HMV:=da qJ;have GZ:=da PU;have HDK:=da OU;have kL:=da ZS;have Wy:=da uu;have OZ:=da hpc;have HPK:=da hpk;have PZ:=da IR;have A9:=da ZQ;by_cases hM:0<mv
 ·as_aux_lemma=>
  have SW:=FL hI dZ vu.out (by rw[qJ];exact hM) f;rw[qJ]at SW;have aaH:=da SW;have Qc:=da Lc
  have QG:(0:Int)<mv/\ mv<=100000:=by{refine⟨hM,?_⟩;(rcases dZ x y hx1 aT with h | ⟨k,h1,h2,_⟩);{omega};{have:=Uo gA uu hI;omega}}
  have hw:IntKind.i64.wrap (mv-1)=((mv-1).toNat:Int):=by rw[Bd _ ia];omega
  have hdd:decide ((0:Int)<mv)=true:=by simpa using hM
  clear SW Lc hb4 fe hI dZ hF Tu QU RB hA TB hD IH PG x9 QM cZ qJ hpc hpk IR ZQ cN oU pp pq hp hq rU n0 n1 n2 n3 m0 m1 m2 m3 D3 hM PU OU ZS lL NJ uu;go_enter Tryz.func75,Tryz.ntmps75;go_wp2;go_ret;rw[aaH.out];exact⟨ke (by show((mv.toNat-1:Nat):Int)=(((mv-1).toNat:Nat):Int);omega),M,Zv.out.below Qc.out (ja _),eZ.out.below Qc.out (ja _),HMM.out,HF.out,ld.Vb Qc.out (ja _),Js.Vb Qc.out nR⟩
 ·have hlk:=zI dZ vu.out (by rw[qJ];exact hM)
  have HLK:=da hlk;have hdd:decide ((0:Int)<mv)=false:=by simpa using hM
  have K0:Bb (((((W.alloc (.cells #[.slice (some ⟨gb,go,none⟩) ta.length ca] 34)).alloc (.cells #[.slice (some ⟨hb,ho,none⟩) tb.length cb] 34)).alloc (.cells #[.slice ad d.length cd] 27)).alloc (.cells #[.int .i64 p.fact,.slice pc p.Ja.length gD,.slice pk p.kids.length LF,.bool p.leaf] 56)).alloc (.cells #[.int .i64 q.fact,.slice qc q.Ja.length eE,.slice qk q.kids.length eH,.bool q.leaf] 56)) W.heap.size 34 #[.slice (some ⟨gb,go,none⟩) ta.length ca]:=((((Bb.new W 34 #[.slice (some ⟨gb,go,none⟩) ta.length ca]).alloc _).alloc _).alloc _).alloc _
  have K1:Bb (((((W.alloc (.cells #[.slice (some ⟨gb,go,none⟩) ta.length ca] 34)).alloc (.cells #[.slice (some ⟨hb,ho,none⟩) tb.length cb] 34)).alloc (.cells #[.slice ad d.length cd] 27)).alloc (.cells #[.int .i64 p.fact,.slice pc p.Ja.length gD,.slice pk p.kids.length LF,.bool p.leaf] 56)).alloc (.cells #[.int .i64 q.fact,.slice qc q.Ja.length eE,.slice qk q.kids.length eH,.bool q.leaf] 56)) (W.heap.size+1) 34 #[.slice (some ⟨hb,ho,none⟩) tb.length cb]:=by{have z:=(((Bb.new (W.alloc (.cells #[.slice (some ⟨gb,go,none⟩) ta.length ca] 34)) 34 #[.slice (some ⟨hb,ho,none⟩) tb.length cb]).alloc (.cells #[.slice ad d.length cd] 27)).alloc (.cells #[.int .i64 p.fact,.slice pc p.Ja.length gD,.slice pk p.kids.length LF,.bool p.leaf] 56)).alloc (.cells #[.int .i64 q.fact,.slice qc q.Ja.length eE,.slice qk q.kids.length eH,.bool q.leaf] 56);rw[Ba]at z;exact z}
  have K2:Bb (((((W.alloc (.cells #[.slice (some ⟨gb,go,none⟩) ta.length ca] 34)).alloc (.cells #[.slice (some ⟨hb,ho,none⟩) tb.length cb] 34)).alloc (.cells #[.slice ad d.length cd] 27)).alloc (.cells #[.int .i64 p.fact,.slice pc p.Ja.length gD,.slice pk p.kids.length LF,.bool p.leaf] 56)).alloc (.cells #[.int .i64 q.fact,.slice qc q.Ja.length eE,.slice qk q.kids.length eH,.bool q.leaf] 56)) (W.heap.size+2) 27 #[.slice ad d.length cd]:=by{have z:=((Bb.new ((W.alloc (.cells #[.slice (some ⟨gb,go,none⟩) ta.length ca] 34)).alloc (.cells #[.slice (some ⟨hb,ho,none⟩) tb.length cb] 34)) 27 #[.slice ad d.length cd]).alloc (.cells #[.int .i64 p.fact,.slice pc p.Ja.length gD,.slice pk p.kids.length LF,.bool p.leaf] 56)).alloc (.cells #[.int .i64 q.fact,.slice qc q.Ja.length eE,.slice qk q.kids.length eH,.bool q.leaf] 56);rw[Ba,Ba]at z;exact z}
  have K3:Bb (((((W.alloc (.cells #[.slice (some ⟨gb,go,none⟩) ta.length ca] 34)).alloc (.cells #[.slice (some ⟨hb,ho,none⟩) tb.length cb] 34)).alloc (.cells #[.slice ad d.length cd] 27)).alloc (.cells #[.int .i64 p.fact,.slice pc p.Ja.length gD,.slice pk p.kids.length LF,.bool p.leaf] 56)).alloc (.cells #[.int .i64 q.fact,.slice qc q.Ja.length eE,.slice qk q.kids.length eH,.bool q.leaf] 56)) (W.heap.size+3) 56 #[.int .i64 p.fact,.slice pc p.Ja.length gD,.slice pk p.kids.length LF,.bool p.leaf]:=by{have z:=(Bb.new (((W.alloc (.cells #[.slice (some ⟨gb,go,none⟩) ta.length ca] 34)).alloc (.cells #[.slice (some ⟨hb,ho,none⟩) tb.length cb] 34)).alloc (.cells #[.slice ad d.length cd] 27)) 56 #[.int .i64 p.fact,.slice pc p.Ja.length gD,.slice pk p.kids.length LF,.bool p.leaf]).alloc (.cells #[.int .i64 q.fact,.slice qc q.Ja.length eE,.slice qk q.kids.length eH,.bool q.leaf] 56);rw[Ba,Ba,Ba]at z;exact z}
  have K4:Bb (((((W.alloc (.cells #[.slice (some ⟨gb,go,none⟩) ta.length ca] 34)).alloc (.cells #[.slice (some ⟨hb,ho,none⟩) tb.length cb] 34)).alloc (.cells #[.slice ad d.length cd] 27)).alloc (.cells #[.int .i64 p.fact,.slice pc p.Ja.length gD,.slice pk p.kids.length LF,.bool p.leaf] 56)).alloc (.cells #[.int .i64 q.fact,.slice qc q.Ja.length eE,.slice qk q.kids.length eH,.bool q.leaf] 56)) (W.heap.size+4) 56 #[.int .i64 q.fact,.slice qc q.Ja.length eE,.slice qk q.kids.length eH,.bool q.leaf]:=by{have z:=Bb.new ((((W.alloc (.cells #[.slice (some ⟨gb,go,none⟩) ta.length ca] 34)).alloc (.cells #[.slice (some ⟨hb,ho,none⟩) tb.length cb] 34)).alloc (.cells #[.slice ad d.length cd] 27)).alloc (.cells #[.int .i64 p.fact,.slice pc p.Ja.length gD,.slice pk p.kids.length LF,.bool p.leaf] 56)) 56 #[.int .i64 q.fact,.slice qc q.Ja.length eE,.slice qk q.kids.length eH,.bool q.leaf];rw[Ba,Ba,Ba,Ba]at z;exact z}
  have p0:=(Lc.cell (p:=⟨gb,go+x*4,none⟩) (by show gb<_;omega)).trans n0;have p1:=(Lc.cell (p:=⟨gb,go+x*4+1,none⟩) (by show gb<_;omega)).trans n1;have p2:=(Lc.cell (p:=⟨gb,go+x*4+2,none⟩) (by show gb<_;omega)).trans n2;have p3:=(Lc.cell (p:=⟨gb,go+x*4+3,none⟩) (by show gb<_;omega)).trans n3;have r0:=(hb4.cell (p:=⟨hb,ho+y*4,none⟩) (by show hb<_;omega)).trans m0;have r1:=(hb4.cell (p:=⟨hb,ho+y*4+1,none⟩) (by show hb<_;omega)).trans m1;have r2:=(hb4.cell (p:=⟨hb,ho+y*4+2,none⟩) (by show hb<_;omega)).trans m2;have r3:=(hb4.cell (p:=⟨hb,ho+y*4+3,none⟩) (by show hb<_;omega)).trans m3;have hs5:W.heap.size+5<=((((((W.alloc (.cells #[.slice (some ⟨gb,go,none⟩) ta.length ca] 34)).alloc (.cells #[.slice (some ⟨hb,ho,none⟩) tb.length cb] 34)).alloc (.cells #[.slice ad d.length cd] 27)).alloc (.cells #[.int .i64 p.fact,.slice pc p.Ja.length gD,.slice pk p.kids.length LF,.bool p.leaf] 56)).alloc (.cells #[.int .i64 q.fact,.slice qc q.Ja.length eE,.slice qk q.kids.length eH,.bool q.leaf] 56))).heap.size:=by simp
  obtain⟨W5,CY⟩:∃W5,(((((W.alloc (.cells #[.slice (some ⟨gb,go,none⟩) ta.length ca] 34)).alloc (.cells #[.slice (some ⟨hb,ho,none⟩) tb.length cb] 34)).alloc (.cells #[.slice ad d.length cd] 27)).alloc (.cells #[.int .i64 p.fact,.slice pc p.Ja.length gD,.slice pk p.kids.length LF,.bool p.leaf] 56)).alloc (.cells #[.int .i64 q.fact,.slice qc q.Ja.length eE,.slice qk q.kids.length eH,.bool q.leaf] 56))=W5:=⟨_,rfl⟩;rw[CY]at fe K0 K1 K2 K3 K4 hs5;have et:=da CY;have Jf:=da fe;have Be:=da K0;have Gf:=da K1;have Dj:=da K2;have ou:=da K3;have fE:=da K4;clear Lc hb4 fe hI dZ hF Tu QU RB hA TB hD IH PG x9 QM cZ qJ hpc hpk IR ZQ cN oU pp pq hp hq rU n0 n1 n2 n3 m0 m1 m2 m3 D3 hM hlk CY K0 K1 K2 K3 K4 PU OU ZS lL NJ uu;go_enter Tryz.func75,Tryz.ntmps75;go_upto_region 5 with(fail);rw[et.out];clear p0 p1 p2 p3 r0 r1 r2 r3 d0 d1;have hpz:=fh (l:=p.kids);have hqz:=fh (l:=q.kids);obtain⟨bp,F3⟩:∃bp,decide (p.kids=[])=bp:=⟨_,rfl⟩;obtain⟨bq,hbq⟩:∃bq,decide (q.kids=[])=bq:=⟨_,rfl⟩;rw[F3]at hpz;rw[hbq]at hqz;have RU:=da F3;have Xl:=da hbq;clear F3 hbq;have z0:=Be.out.cell 0;have z1:=Gf.out.cell 0;have z2:=Dj.out.cell 0;have p0:=ou.out.cell 0;have p1:=ou.out.cell 1;have p2:=ou.out.cell 2;have p3:=ou.out.cell 3;have q0:=fE.out.cell 0;have q1:=fE.out.cell 1;have q2:=fE.out.cell 2;have q3:=fE.out.cell 3;go_upto_region 6 with(fail)
  go_cut[61] (fun s61 wx=>s61=.bool (bp&& bq)/\ wx=W5)
  case first=>as_aux_lemma=>{cases bp with| false=>{go_wp2;go_meet;exact⟨rfl,rfl⟩}| true=>{go_wp2;go_meet;exact⟨rfl,rfl⟩}}
  case rest=>
   obtain⟨rfl,Xy⟩:=hcut;rw[Xy];clear Xy
   go_upto_if 61 with(fail)
   go_cut[17] (fun s17 wx=>∃(k:Nat) (m2:List Dn) (NU:pe) (M1:List (List Int)),s17=.int .i64 (k:Int)/\ Hid (QW W wx H K DM RS S d ta tb m2 NU M1 x y k)/\ Hid (bh d ta tb (f+1) m dn x y=((m2,NU),k)))
   case first=>as_aux_lemma=>
    cases fZ:(bp&& bq)with
    | true=>as_aux_lemma=>
     have hpk:p.kids=[]:=Fc (RU.out.trans (Bool.and_eq_true_iff.1 fZ).1);have ZQ:q.kids=[]:=Fc (Xl.out.trans (Bool.and_eq_true_iff.1 fZ).2)
     have Ew:Pb d.length ta tb x y=d.length:=by{unfold Pb;rw[HP.out,HQ.out];unfold Fb;rw[if_pos hpk,if_pos ZQ];exact Nat.min_self _}
     have heq:=Dq (d:=d) (ta:=ta) (tb:=tb) (f:=f) (m:=m) HLK.out (.inl Ew);have cA:SB ta tb x y=⟨0,[],[],p.leaf&& q.leaf⟩:=by unfold SB;rw[HP.out,HQ.out]
     rw[HP.out,HQ.out]at heq;obtain⟨bl,En⟩:∃bl,(p.leaf&& q.leaf)=bl:=⟨_,rfl⟩;rw[En]at heq cA;have aP:=da (Yy H K S m ⟨0,[],[],bl⟩ (.slice none 0 0) (.slice none 0 0) W5 (Zv.out.below Jf.out (ja _)) (Me.nil _ _ _) (Me.nil _ _ _) (by have:=Uo gA Wy.out HI.out;omega));have bT:=da (fun w6 (h6:Hi w6 H K S (Md m ⟨0,[],[],bl⟩).1) (s6:ld H [K] W5 w6/\ Js [K] K W5 w6)=>BL Jf.out eZ.out HDK.out GZ.out h6 s6 nR (DL cA HMM.out HF.out vu.out HLK.out Ew) HF.out (fD m ⟨0,[],[],bl⟩).1);have vM:=da heq;clear heq cA hpk ZQ Ew;generalize(Md m ⟨0,[],[],bl⟩).1=r1 at*
     generalize(Md m ⟨0,[],[],bl⟩).2=r2 at*
     cases FC:p.leaf with| false=>{rw[FC,Bool.false_and]at En;subst En;rw[FC]at p3;go_wp2_with (go_at_call 114;refine aP.out.mono ?_;rintro e w6 ⟨rfl,h6,s6⟩;have qs:=da (bT.out w6 h6 s6);clear h6 s6);go_meet;exact⟨_,_,_,_,rfl,qs,vM⟩}| true=>{rw[FC,Ge]at En;subst En;rw[FC]at p3;go_wp2_with (go_at_call 114;refine aP.out.mono ?_;rintro e w6 ⟨rfl,h6,s6⟩;have qs:=da (bT.out w6 h6 s6);clear h6 s6);go_meet;exact⟨_,_,_,_,rfl,qs,vM⟩}
    | false=>
     have SU:¬(p.kids=[]/\ q.kids=[]):=fun h=>by{have h1:=RU.out;have h2:=Xl.out;rw[Ma h.1]at h1;rw[Ma h.2]at h2;rw[<-h1, <-h2]at fZ;cases fZ}
     obtain⟨rp,CV⟩:∃rp,Fb d.length p=rp:=⟨_,rfl⟩;obtain⟨rq,DV⟩:∃rq,Fb d.length q=rq:=⟨_,rfl⟩;obtain⟨i,hi⟩:∃i,Pb d.length ta tb x y=i:=⟨_,rfl⟩;have Ew:min rp rq=i:=by rw[<-hi];unfold Pb;rw[HP.out,HQ.out,CV,DV]
     have cT:rp=if p.kids=[]then d.length else p.fact.toNat:=by rw[<-CV];rfl
     have dT:rq=if q.kids=[]then d.length else q.fact.toNat:=by rw[<-DV];rfl
     have hpf:p.kids≠[]->(0<=p.fact/\ p.fact.toNat<d.length):=fun h=>⟨(HPP.out.inner h).2.1,(HPP.out.inner h).2.2.1⟩
     have hqf:q.kids≠[]->(0<=q.fact/\ q.fact.toNat<d.length):=fun h=>⟨(HPQ.out.inner h).2.1,(HPQ.out.inner h).2.2.1⟩
     have FK:i<d.length:=by{by_cases h1:p.kids=[];{(have h2:q.kids≠[]:=fun h=>SU ⟨h1,h⟩);rw[Aa h2]at dT;have:=hqf h2;omega};{rw[Aa h1]at cT;have:=hpf h1;omega}}
     have GL:Hid (((0:Int)<(p.kids.length:Int))↔bp=false):=by{have:=RU.out;constructor;{intro h;rw[<-this];exact Ia fun e=>by rw[e]at h;simp at h};{intro h;rw[h]at this;have:=List.length_pos_iff.2 (re this);omega}}
     have IL:Hid (((0:Int)<(q.kids.length:Int))↔bq=false):=by{have:=Xl.out;constructor;{intro h;rw[<-this];exact Ia fun e=>by rw[e]at h;simp at h};{intro h;rw[h]at this;have:=List.length_pos_iff.2 (re this);omega}}
     have G3:=da Ew
     have Z7:Hid ((bp=true->(rp:Int)=d.length)/\ (bp=false->(rp:Int)=p.fact)):=by{have h:=RU.out;constructor;{intro e;rw[e]at h;rw[if_pos (Fc h)]at cT;omega};{intro e;rw[e]at h;have h1:=re h;rw[Aa h1]at cT;have:=hpf h1;omega}}
     have g_:Hid ((bq=true->(rq:Int)=d.length)/\ (bq=false->(rq:Int)=q.fact)):=by{have h:=Xl.out;constructor;{intro e;rw[e]at h;rw[if_pos (Fc h)]at dT;omega};{intro e;rw[e]at h;have h1:=re h;rw[Aa h1]at dT;have:=hqf h1;omega}}
     have nH:=da hi;have aim:=da fZ;clear SU CV DV hi Ew cT dT hpf hqf hpz hqz fZ
     go_upto_if 77 with(fail)
     go_cut[18] (fun s18 wx=>s18=.int .i64 (rp:Int)/\ wx=W5)
     case first=>as_aux_lemma=>{cases Cl:bp with| true=>{(have g1:decide ((0:Int)<(p.kids.length:Int))=false:=Ia fun h=>by have:=GL.out.1 h;rw[Cl]at this;cases this);(have g2:decide (0<p.kids.length)=false:=by simpa using g1);rw[g2];go_wp2;go_meet;exact⟨by rw[Z7.out.1 Cl],rfl⟩}| false=>{have g1:decide ((0:Int)<(p.kids.length:Int))=true:=Ma (GL.out.2 Cl);(have g2:decide (0<p.kids.length)=true:=by simpa using g1);rw[g2];go_wp2;go_meet;exact⟨by rw[Z7.out.2 Cl],rfl⟩}}
     case rest=>
      obtain⟨rfl,Xy⟩:=hcut;rw[Xy];clear Xy
      go_upto_if 83 with(fail)
      go_cut[18] (fun s18 wx=>s18=.int .i64 (i:Int)/\ wx=W5)
      case first=>as_aux_lemma=>{cases Cl:bq with| true=>{(have g1:decide ((0:Int)<(q.kids.length:Int))=false:=Ia fun h=>by have:=IL.out.1 h;rw[Cl]at this;cases this);(have g2:decide (0<q.kids.length)=false:=by simpa using g1);rw[g2];have dR:(rp:Int)=(i:Int):=by{have h1:=G3.out;have h2:=g_.out.1 Cl;omega};go_wp2;go_meet;exact⟨by rw[dR],rfl⟩}| false=>{have g1:decide ((0:Int)<(q.kids.length:Int))=true:=Ma (IL.out.2 Cl);(have g2:decide (0<q.kids.length)=true:=by simpa using g1);rw[g2];have dR:min (rp:Int) q.fact=(i:Int):=by{have h1:=G3.out;have h2:=g_.out.2 Cl;omega};have zR:=da dR;clear dR;go_wp2;go_meet;exact⟨by rw[zR.out],rfl⟩}}
      case rest=>
       obtain⟨rfl,Xy⟩:=hcut;rw[Xy];clear Xy;obtain⟨du,aaN,uq⟩:=HD.out;cases aaN
       obtain⟨db,df,rfl,D_,f0,f1,f2,f3,f4,f5,f6,f7⟩:=uq.at i FK;have eN:d[i].lo=Pe d i:=by unfold Pe;rw[Eb _ _ _ FK]
       rw[eN]at f2;have f2':=(Jf.out.cell (p:=⟨db,df+i*4+2,none⟩) (by show db<W.heap.size;omega)).trans f2;have i_:(i:Int)<(d.length:Int):=by omega
       have hi0:(0:Int)<=(i:Int):=Ab i;clear f0 f1 f2 f3 f4 f5 f6 f7 uq;obtain⟨lo,hlo⟩:∃lo,Pe d i=lo:=⟨_,rfl⟩;rw[hlo]at f2';have EV:=da hlo;clear eN hlo;go_upto_region 14 with(fail);have hl0:Nk W5.heap.size (W5.alloc (.cells #[.int .i64 lo] 3)) [lo] (.slice (some ⟨W5.heap.size,0,none⟩) 1 1):=bP W5 lo;have Sk:Below W5.heap.size W5 (W5.alloc (.cells #[.int .i64 lo] 3)):=(za _ _).alloc (ja _) _;obtain⟨W6,hW6⟩:∃W6,W5.alloc (.cells #[.int .i64 lo] 3)=W6:=⟨_,rfl⟩;rw[hW6]at hl0 Sk⊢;have lH:=da hl0;have eh:=da Sk;obtain⟨ba,KJ⟩:∃ba,decide (asks p i)=ba:=⟨_,rfl⟩;obtain⟨bb,cE⟩:∃bb,decide (asks q i)=bb:=⟨_,rfl⟩;have TW:=da KJ;have UW:=da cE;have VW:Hid (([lo]:List Int).length<=2000):=by show([lo]:List Int).length<=2000;simp
       have I3:Hid (([lo]:List Int)≠[]):=by show[lo]≠[];simp
       have cP:Hid ((Eg [lo] (if ba=true then p.Ja else[])).length<=2000):=by{show _<=_;have h1:=(Vm (if ba=true then p.Ja else[]) [lo]).1;have h2:=Qu (ba=true) p.Ja;rw[Hb]at h1;omega}
       have J3:Hid (Eg [lo] (if ba=true then p.Ja else[])≠[]):=(Vm (if ba=true then p.Ja else[]) [lo]).2 la;clear hl0 Sk hW6 KJ cE f2' z0 z1 z2 p0 p1 p2 p3 q0 q1 q2 q3;have p0:=(ou.out.below eh.out).cell 0;have p2:=(ou.out.below eh.out).cell 2
       go_cut[104] (fun s wx=>s=.bool ba/\ wx=W6)
       case first=>as_aux_lemma=>{cases Cl:bp with| true=>{have hn:=Ax (i:=i) (RU.out.trans Cl);(have g1:decide ((0:Int)<(p.kids.length:Int))=false:=Ia fun h=>by have:=GL.out.1 h;rw[Cl]at this;cases this);(have g2:decide (0<p.kids.length)=false:=by simpa using g1);(have KJ:ba=false:=by rw[<-TW.out,hn]);have vt:=da KJ;clear hn KJ;go_wp2;go_meet;exact⟨by rw[vt.out],rfl⟩}| false=>{have hy:=wu (i:=i) (RU.out.trans Cl);have g1:decide ((0:Int)<(p.kids.length:Int))=true:=Ma (GL.out.2 Cl);(have g2:decide (0<p.kids.length)=true:=by simpa using g1);have vt:Hid ((p.fact==(i:Int))=ba):=hy.trans TW.out;clear hy;go_wp2;go_meet;exact⟨by rw[vt.out],rfl⟩}}
       case rest=>
        obtain⟨rfl,Xy⟩:=hcut;rw[Xy];clear Xy
        go_upto_if 104 with(fail)
        go_cut[19] (fun s19 wx=>Hid (Nk W5.heap.size wx (Eg [lo] (if ba=true then p.Ja else[])) s19)/\ Hid (Below W5.heap.size W5 wx))
        case first=>as_aux_lemma=>
         cases Vh:ba with
         | false=>{(have hz:(if ba=true then p.Ja else[])=[]:=by rw[Vh];rfl);have HZ:=da hz;clear hz;go_wp2;go_meet;exact⟨by rw[HZ.out];exact lH,eh⟩}
         | true=>
          go_wp2
          go_loopw [19,20] (fun sl iv wr=>∃j:Nat,j<=p.Ja.length/\ iv=.int .i64 j/\ Hid (Nk W5.heap.size wr (Eg ([lo]) (p.Ja.take j)) sl)/\ Hid (Below W5.heap.size W5 wr)) (fun _ iv _=>p.Ja.length-(intOf iv).toNat)
          case atStart=>exact⟨0,ia,rfl,lH,eh⟩
          case round=>
           rename World=>wr
           obtain⟨j,hj,rfl,hL,dP⟩:=hrel;have hsz:=dP.out.size;have w1:=(ou.out.below dP.out).cell 1;by_cases hlt:j<p.Ja.length
           ·obtain⟨cb,co,rfl,hcB,hcc⟩:=Xa.one OZ.out j hlt
            have Rv:=da (Zy ([lo]) p.Ja j hlt);have FC:=Vm (p.Ja.take j) ([lo])
            have aA:(Eg ([lo]) (p.Ja.take j)).length<=1000000:=by{have:=FC.1;rw[Bc]at this;have h0:([lo]).length<=2000:=VW.out;omega}
            have hne:=FC.2 I3.out;generalize p.Ja[j]=cj at*
            have Og:Hid (∀w',Hid (Below wr.heap.size wr w')->(w'.cell? ⟨W.heap.size+3,1,none⟩=some (.slice (some ⟨cb,co,none⟩) p.Ja.length gD)/\ w'.cell? ⟨cb,co+j,none⟩=some (.int .i64 cj))/\ Hid (Below wr.heap.size wr w')):=fun w' hb'=>by{have Qw:=dP.out.trans (hb'.out.mono hsz);exact⟨⟨(ou.out.below Qw).cell 1,((Jf.out.trans (Qw.mono Jf.out.size)).cell (p:=⟨cb,co+j,none⟩) (by show cb<W.heap.size;omega)).trans hcc⟩,hb'⟩}
            have AF:Hid (∀w',Hid (Below wr.heap.size wr w')->∀sv,Nk W5.heap.size wr (Eg ([lo]) (p.Ja.take j)) sv->Calls Tryz.prog 119 #[sv,.int .i64 cj,.int .i64 cj,.int .i64 cj] w' fun e w''=>∃u,e=.returned u/\ Hid (Nk W5.heap.size w'' (Uh (Eg ([lo]) (p.Ja.take j)) cj cj cj) u)/\ Hid (Below wr.heap.size wr w'')):=fun w' hb' sv uI=>by{refine(Py W5.heap.size _ cj cj cj sv w' hne (uI.below hb'.out) aA).mono ?_;rintro e w'' ⟨u,rfl,h1,h2⟩;exact⟨u,rfl,h1,hb'.out.trans (h2.mono hb'.out.size)⟩}
            have Yi:Hid (Below wr.heap.size wr wr.drew):=(za _ _).drew;clear hcc FC aA hne;go_upto_region 18 with(fail)
            go_region_held3 (fun w'=>(w'.cell? ⟨W.heap.size+3,1,none⟩=some (.slice (some ⟨cb,co,none⟩) p.Ja.length gD)/\ w'.cell? ⟨cb,co+j,none⟩=some (.int .i64 cj))/\ Hid (Below wr.heap.size wr w'))
             (exact Og.out _ Da)
             ((go_at_call 119;refine(AF.out _ Da _ hL.out).mono ?_;rintro e w7 ⟨u7,rfl,WZ,qp⟩))
            clear Og AF Yi w1;have Ul:Hid (Below W5.heap.size W5 w7):=dP.out.trans (qp.out.mono hsz);go_wp2;go_roundw
            case rel=>exact⟨j+1,ia,by go_num,by rw[Rv.out];exact WZ,Ul⟩
            case measure=>simp[intOf];omega
           {(have Mk:j=p.Ja.length:=ia);have aA:=hL.out;rw[Mk,Jb]at aA;have XD:=da aA;clear aA hL;go_wp2;go_meet;exact⟨by rw[if_pos Vh];exact XD,dP⟩}
        case rest=>
         obtain⟨TU,VJ⟩:=hcut;rename World=>wa
         clear p0 p2 lH eh;have q0:=(fE.out.below VJ.out).cell 0;have q2:=(fE.out.below VJ.out).cell 2;go_upto_region 19 with(fail)
         go_cut[138] (fun s wx=>s=.bool bb/\ wx=wa)
         case first=>as_aux_lemma=>{cases Cl:bq with| true=>{have hn:=Ax (i:=i) (Xl.out.trans Cl);(have g1:decide ((0:Int)<(q.kids.length:Int))=false:=Ia fun h=>by have:=IL.out.1 h;rw[Cl]at this;cases this);(have g2:decide (0<q.kids.length)=false:=by simpa using g1);(have KJ:bb=false:=by rw[<-UW.out,hn]);have vt:=da KJ;clear hn KJ;go_wp2;go_meet;exact⟨by rw[vt.out],rfl⟩}| false=>{have hy:=wu (i:=i) (Xl.out.trans Cl);have g1:decide ((0:Int)<(q.kids.length:Int))=true:=Ma (IL.out.2 Cl);(have g2:decide (0<q.kids.length)=true:=by simpa using g1);have vt:Hid ((q.fact==(i:Int))=bb):=hy.trans UW.out;clear hy;go_wp2;go_meet;exact⟨by rw[vt.out],rfl⟩}}
         case rest=>
          obtain⟨rfl,Xy⟩:=hcut;rw[Xy];clear Xy
          go_upto_if 138 with(fail)
          go_cut[19] (fun s19 wx=>Hid (Nk W5.heap.size wx (Eg (Eg [lo] (if ba=true then p.Ja else[])) (if bb=true then q.Ja else[])) s19)/\ Hid (Below W5.heap.size W5 wx))
          case first=>as_aux_lemma=>
           cases Vh:bb with
           | false=>{(have hz:(if bb=true then q.Ja else[])=[]:=by rw[Vh];rfl);have HZ:=da hz;clear hz;go_wp2;go_meet;exact⟨by rw[HZ.out];exact TU,VJ⟩}
           | true=>
            go_wp2
            go_loopw [19,21] (fun sl iv wr=>∃j:Nat,j<=q.Ja.length/\ iv=.int .i64 j/\ Hid (Nk W5.heap.size wr (Eg (Eg [lo] (if ba=true then p.Ja else[])) (q.Ja.take j)) sl)/\ Hid (Below W5.heap.size W5 wr)) (fun _ iv _=>q.Ja.length-(intOf iv).toNat)
            case atStart=>exact⟨0,ia,rfl,TU,VJ⟩
            case round=>
             rename World=>wr
             obtain⟨j,hj,rfl,hL,dP⟩:=hrel;have hsz:=dP.out.size;have w1:=(fE.out.below dP.out).cell 1;by_cases hlt:j<q.Ja.length
             ·obtain⟨cb,co,rfl,hcB,hcc⟩:=Xa.one PZ.out j hlt
              have Rv:=da (Zy (Eg [lo] (if ba=true then p.Ja else[])) q.Ja j hlt);have FC:=Vm (q.Ja.take j) (Eg [lo] (if ba=true then p.Ja else[]))
              have aA:(Eg (Eg [lo] (if ba=true then p.Ja else[])) (q.Ja.take j)).length<=1000000:=by{have:=FC.1;rw[Bc]at this;have h0:(Eg [lo] (if ba=true then p.Ja else[])).length<=2000:=cP.out;omega}
              have hne:=FC.2 J3.out;generalize q.Ja[j]=cj at*
              have Og:Hid (∀w',Hid (Below wr.heap.size wr w')->(w'.cell? ⟨W.heap.size+4,1,none⟩=some (.slice (some ⟨cb,co,none⟩) q.Ja.length eE)/\ w'.cell? ⟨cb,co+j,none⟩=some (.int .i64 cj))/\ Hid (Below wr.heap.size wr w')):=fun w' hb'=>by{have Qw:=dP.out.trans (hb'.out.mono hsz);exact⟨⟨(fE.out.below Qw).cell 1,((Jf.out.trans (Qw.mono Jf.out.size)).cell (p:=⟨cb,co+j,none⟩) (by show cb<W.heap.size;omega)).trans hcc⟩,hb'⟩}
              have AF:Hid (∀w',Hid (Below wr.heap.size wr w')->∀sv,Nk W5.heap.size wr (Eg (Eg [lo] (if ba=true then p.Ja else[])) (q.Ja.take j)) sv->Calls Tryz.prog 119 #[sv,.int .i64 cj,.int .i64 cj,.int .i64 cj] w' fun e w''=>∃u,e=.returned u/\ Hid (Nk W5.heap.size w'' (Uh (Eg (Eg [lo] (if ba=true then p.Ja else[])) (q.Ja.take j)) cj cj cj) u)/\ Hid (Below wr.heap.size wr w'')):=fun w' hb' sv uI=>by{refine(Py W5.heap.size _ cj cj cj sv w' hne (uI.below hb'.out) aA).mono ?_;rintro e w'' ⟨u,rfl,h1,h2⟩;exact⟨u,rfl,h1,hb'.out.trans (h2.mono hb'.out.size)⟩}
              have Yi:Hid (Below wr.heap.size wr wr.drew):=(za _ _).drew;clear hcc FC aA hne;go_upto_region 23 with(fail)
              go_region_held3 (fun w'=>(w'.cell? ⟨W.heap.size+4,1,none⟩=some (.slice (some ⟨cb,co,none⟩) q.Ja.length eE)/\ w'.cell? ⟨cb,co+j,none⟩=some (.int .i64 cj))/\ Hid (Below wr.heap.size wr w'))
               (exact Og.out _ Da)
               ((go_at_call 119;refine(AF.out _ Da _ hL.out).mono ?_;rintro e w7 ⟨u7,rfl,WZ,qp⟩))
              clear Og AF Yi w1;have Ul:Hid (Below W5.heap.size W5 w7):=dP.out.trans (qp.out.mono hsz);go_wp2;go_roundw
              case rel=>exact⟨j+1,ia,by go_num,by rw[Rv.out];exact WZ,Ul⟩
              case measure=>simp[intOf];omega
             {(have Mk:j=q.Ja.length:=ia);have aA:=hL.out;rw[Mk,Jb]at aA;have XD:=da aA;clear aA hL;go_wp2;go_meet;exact⟨by rw[if_pos Vh];exact XD,dP⟩}
          case rest=>
           obtain⟨L3,eP⟩:=hcut;rename World=>w8
           have e1:(if asks p i then p.Ja else[])=(if ba=true then p.Ja else[]):=by rw[<-TW.out];by_cases h:asks p i<;>simp[h]
           have e2:(if asks q i then q.Ja else[])=(if bb=true then q.Ja else[]):=by rw[<-UW.out];by_cases h:asks q i<;>simp[h]
           have BI:Pb d.length ta tb x y<d.length:=by rw[nH.out];exact FK
           have hLs:=JL gA gB vu.out BI;rw[nH.out,EV.out,HP.out,HQ.out,e1,e2]at hLs;obtain⟨L,hL⟩:∃L,sJ d.length (Pe d) ta tb x y=L:=⟨_,rfl⟩;have B9:=L3.out;have M3:=(Vm (if bb=true then q.Ja else[]) (Eg [lo] (if ba=true then p.Ja else[]))).1;have WW:=Qu (bb=true) q.Ja;have aaQ:(Eg [lo] (if ba=true then p.Ja else[])).length<=2000:=cP.out;rw[hLs,hL]at B9 M3;have hL3:L.length<=3000:=by omega
           have hLp:=(oE gA gB hx1 aT BI).1;rw[hL]at hLp;obtain⟨sa,sc,uI, -⟩:=Xa.shape B9.ints;subst uI;have C9:=da B9;have KR:=da (fun j hj=>WJ gA gB Wy.out (f:=f) HI.out vu.out BI aR.out L j hj)
           have hne:=Tv (d:=d) (ta:=ta) (tb:=tb) (f:=f) (m:=m) HLK.out (fun h=>by
            have:=Uo gA Wy.out HI.out
            rcases h with h | h
            {rw[nH.out]at h;omega}
            ·omega)
           rw[hL,nH.out]at hne;have EA:=da hne;have Cp:Hid (Below W.heap.size W w8):=Jf.out.trans (eP.out.mono Jf.out.size);have hRW:∀r∈RS,r<W.heap.size:=fun r hr=>Yz.out r (RW.out r hr)
           have aaS:=da (KL (RS:=RS) Zv.out Cp.out hRW);have aio:=eP.out.size
           have lH:Hid (gZ w8 H K DM RS S d ta tb ((m,dn),[]) M (.slice none 0 0) w8):=⟨by
            show Hi w8 H K ([]++S) m
            rw[Ya]
            exact Zv.out.below Cp.out (ja _),eZ.out.below Cp.out (ja _),HMM.out,HF.out,ld.refl _ _ _,⟨rfl,.inl ⟨rfl,rfl⟩⟩,fun b _ _ hr=>⟨rfl,hr⟩⟩
           have D9:=da hRW;obtain⟨i3,GM,IM,JM,KM⟩:=info_parts Ij;clear e1 e2 hLs hL B9 M3 WW aaQ hne hRW q0 q2 BI;go_wp2
           go_loopw [22,23] (fun kv iv wr=>∃(j:Nat) (r:(List Dn×pe)×List Int) (M1:List (List Int)),j<=L.length/\ iv=.int .i64 j/\ Hid (r=Rk d ta tb f m dn x y (L.take j))/\ Hid (gZ w8 H K DM RS S d ta tb r M1 kv wr)) (fun _ iv _=>L.length-(intOf iv).toNat)
           case atStart=>exact⟨0,((m,dn),[]),M,ia,rfl,rfl,lH⟩
           case round=>
            rename World=>wr
            obtain⟨j,r,M1,hj,rfl,hr,Gh⟩:=hrel;obtain⟨ak,ck,YD⟩:=Wd Gh.out.own;subst YD;have qo:=KR.out j hj;rw[<-hr.out]at qo;have UU:=da qo;have SG:=Gh.out.Al.size;have HXB:Hid (∀w',Below wr.heap.size wr w'->∀b,W.heap.size<=b->b<w8.heap.size->w'.heap[b]? =w8.heap[b]?):=fun w' hb b h1 h2=>(hb.block b ia).trans (aaS.out wr Gh.out.kp b h1 h2)
            have eT:Hid (∀w',Below wr.heap.size wr w'->∀b t cs,Bb W5 b t cs->W.heap.size<=b->Bb w' b t cs):=fun w' hb b t cs hk h1=>by{have h5:=hk.lt;show w'.heap[b]? =_;rw[HXB.out w' hb b h1 ia];exact hk.below eP.out}
            have p0:=(eT.out wr (za _ _) _ _ _ ou.out ia).cell 0;have p2:=(eT.out wr (za _ _) _ _ _ ou.out ia).cell 2;have hjr:r.2.length=j:=qo.2;have rU:r.2.length<=3000:=by omega
            have jS:=da hjr;clear lH qo hjr;by_cases hlt:j<L.length
            ·obtain⟨sb,so,e,LM,hsc⟩:=Xa.one C9.out.ints j hlt
             subst e;obtain⟨Rw,scs,OG⟩:=C9.out.JW _ _ _ rfl;have Rw:W5.heap.size<=sb:=Rw;have JS:sb<w8.heap.size:=je OG;have XW:Hid (∀w',Below wr.heap.size wr w'->w'.cell? ⟨sb,so+j,none⟩=some (.int .i64 L[j])):=fun w' hb=>(World.cell?_of_block (a:=⟨sb,so+j,none⟩) (HXB.out w' hb sb ia JS)).trans hsc
             have Zp:=Qs (d:=d) (ta:=ta) (tb:=tb) (f:=f) (m:=m) (dn:=dn) (x:=x) (y:=y) L j hlt;rw[<-hr.out]at Zp;obtain⟨sv,uI⟩:∃sv,L[j]=sv:=⟨_,rfl⟩;rw[uI]at XW Zp;have HSC:=XW;have Rv:=da Zp;have O3:Hid (Below wr.heap.size wr wr):=za _ _;clear hsc OG uI Zp XW;go_upto_region 30 with(fail)
             go_cut[180] (fun s wx=>s=.bool ba/\ wx=wr)
             case first=>as_aux_lemma=>{cases Cl:bp with| true=>{have hn:=Ax (i:=i) (RU.out.trans Cl);(have g1:decide ((0:Int)<(p.kids.length:Int))=false:=Ia fun h=>by have:=GL.out.1 h;rw[Cl]at this;cases this);(have g2:decide (0<p.kids.length)=false:=by simpa using g1);(have vt:Hid (ba=false):=by show _=_;rw[<-TW.out,hn]);clear hn;go_wp2;go_meet;exact⟨by rw[vt.out],rfl⟩}| false=>{have hy:=wu (i:=i) (RU.out.trans Cl);have g1:decide ((0:Int)<(p.kids.length:Int))=true:=Ma (GL.out.2 Cl);(have g2:decide (0<p.kids.length)=true:=by simpa using g1);have vt:Hid ((p.fact==(i:Int))=ba):=hy.trans TW.out;clear hy;go_wp2;go_meet;exact⟨by rw[vt.out],rfl⟩}}
             case rest=>
              obtain⟨rfl,Xy⟩:=hcut;rw[Xy];clear Xy
              go_upto_if 180 with(fail)
              go_cut[24] (fun s wx=>s=.int .i64 ((Rc ta x i sv:Nat):Int)/\ Hid (Below wr.heap.size wr wx))
              case first=>as_aux_lemma=>
               have hst:=az (i:=i) HP.out sv;cases Vh:ba with
               | false=>{have VU:¬asks p i:=re (TW.out.trans Vh);rw[Aa VU]at hst;have HST:=da hst;clear hst VU;go_wp2;go_meet;exact⟨by rw[HST.out],O3⟩}
               | true=>
                have PS:asks p i:=Fc (TW.out.trans Vh);rw[if_pos PS]at hst;have hin:=HPP.out.inner PS.1;have dl:=hin.2.2.2.2.1;have Gs:=aj p.Ja sv;have Dv:Yd p.Ja sv<p.kids.length:=by omega
                have mR:=Yx dl sv;rw[Eb _ _ _ Dv]at hst;have hkk:=(hin.2.2.2.2.2.2.2 p.kids[Yd p.Ja sv] (Ga _)).1;obtain⟨kb,ko,rfl,Ou,hkc⟩:=Xa.one HPK.out _ Dv;generalize p.kids[Yd p.Ja sv]=kq at*
                obtain⟨ix,fP⟩:∃ix,Yd p.Ja sv=ix:=⟨_,rfl⟩;rw[fP]at Dv mR hkc;have aaV:(ix:Int)<(p.kids.length:Int):=by omega
                have aaW:(0:Int)<=(ix:Int):=Ab ix;have HST:Hid (((Rc ta x i sv:Nat):Int)=kq):=by show _=_;rw[hst];omega
                have Og:Hid (∀w',Hid (Below wr.heap.size wr w')->(w'.cell? ⟨W.heap.size+3,0,none⟩=some (.int .i64 p.fact)/\ w'.cell? ⟨W.heap.size+3,1,none⟩=some (.slice pc p.Ja.length gD)/\ w'.cell? ⟨W.heap.size+3,2,none⟩=some (.slice (some ⟨kb,ko,none⟩) p.kids.length LF)/\ w'.cell? ⟨W.heap.size+3,3,none⟩=some (.bool p.leaf)/\ w'.cell? ⟨sb,so+j,none⟩=some (.int .i64 sv)/\ w'.cell? ⟨kb,ko+ix,none⟩=some (.int .i64 kq))/\ Hid (Below wr.heap.size wr w')):=fun w' hb'=>by{have k3:=eT.out w' hb'.out _ _ _ ou.out ia;have dA:Below B W w':=((Cp.out.mono yR).trans ((Gh.out.Al.below ia).mono hB)).trans (hb'.out.mono ia);exact⟨⟨k3.cell 0,k3.cell 1,k3.cell 2,k3.cell 3,HSC.out w' hb'.out,(dA.cell (p:=⟨kb,ko+ix,none⟩) Ou).trans hkc⟩,hb'⟩}
                have gP:Hid (∀w',Hid (Below wr.heap.size wr w')->Calls Tryz.prog 80 #[.agg #[.int .i64 p.fact,.slice pc p.Ja.length gD,.slice (some ⟨kb,ko,none⟩) p.kids.length LF,.bool p.leaf],.int .i64 sv] w' fun e w''=>e=.returned (.int .i64 (ix:Int))/\ Hid (Below wr.heap.size wr w'')):=fun w' hb'=>by{have dA:Below B W w':=((Cp.out.mono yR).trans ((Gh.out.Al.below ia).mono hB)).trans (hb'.out.mono ia);have qq:=iD p sv _ _ w' B (by have:=hb'.out.size;omega) (IntsIn.below dA OZ.out) (IntsIn.below dA HPK.out);rw[mR]at qq;refine qq.mono ?_;rintro e w'' ⟨rfl,h⟩;exact⟨rfl,hb'.out.trans (h.mono hb'.out.size)⟩}
                have Yi:Hid (Below wr.heap.size wr wr.drew):=O3.out.drew;clear hst dl Gs mR hkk hkc fP hin PS;go_upto_region 31 with(fail)
                go_region_held3 (fun w'=>(w'.cell? ⟨W.heap.size+3,0,none⟩=some (.int .i64 p.fact)/\ w'.cell? ⟨W.heap.size+3,1,none⟩=some (.slice pc p.Ja.length gD)/\ w'.cell? ⟨W.heap.size+3,2,none⟩=some (.slice (some ⟨kb,ko,none⟩) p.kids.length LF)/\ w'.cell? ⟨W.heap.size+3,3,none⟩=some (.bool p.leaf)/\ w'.cell? ⟨sb,so+j,none⟩=some (.int .i64 sv)/\ w'.cell? ⟨kb,ko+ix,none⟩=some (.int .i64 kq))/\ Hid (Below wr.heap.size wr w'))
                 (exact Og.out _ Da)
                 ((go_at_call 80;refine(gP.out _ Da).mono ?_;rintro e w7 ⟨rfl,qp⟩))
                clear Og gP Yi;go_wp2;go_meet;exact⟨by rw[HST.out],qp⟩
              case rest=>
               obtain⟨rfl,XJ⟩:=hcut;rename World=>wb
               have q0:=(eT.out wb XJ.out _ _ _ fE.out ia).cell 0;have q2:=(eT.out wb XJ.out _ _ _ fE.out ia).cell 2;clear p0 p2;go_upto_region 32 with(fail)
               go_cut[200] (fun s wx=>s=.bool bb/\ wx=wb)
               case first=>as_aux_lemma=>{cases Cl:bq with| true=>{have hn:=Ax (i:=i) (Xl.out.trans Cl);(have g1:decide ((0:Int)<(q.kids.length:Int))=false:=Ia fun h=>by have:=IL.out.1 h;rw[Cl]at this;cases this);(have g2:decide (0<q.kids.length)=false:=by simpa using g1);(have vt:Hid (bb=false):=by show _=_;rw[<-UW.out,hn]);clear hn;go_wp2;go_meet;exact⟨by rw[vt.out],rfl⟩}| false=>{have hy:=wu (i:=i) (Xl.out.trans Cl);have g1:decide ((0:Int)<(q.kids.length:Int))=true:=Ma (IL.out.2 Cl);(have g2:decide (0<q.kids.length)=true:=by simpa using g1);have vt:Hid ((q.fact==(i:Int))=bb):=hy.trans UW.out;clear hy;go_wp2;go_meet;exact⟨by rw[vt.out],rfl⟩}}
               case rest=>
                obtain⟨rfl,Xy⟩:=hcut;rw[Xy];clear Xy
                go_upto_if 200 with(fail)
                go_cut[25] (fun s wx=>s=.int .i64 ((Rc tb y i sv:Nat):Int)/\ Hid (Below wr.heap.size wr wx))
                case first=>as_aux_lemma=>
                 have hst:=az (i:=i) HQ.out sv;cases Vh:bb with
                 | false=>{have VU:¬asks q i:=re (UW.out.trans Vh);rw[Aa VU]at hst;have HST:=da hst;clear hst VU;go_wp2;go_meet;exact⟨by rw[HST.out],XJ⟩}
                 | true=>
                  have PS:asks q i:=Fc (UW.out.trans Vh);rw[if_pos PS]at hst;have hin:=HPQ.out.inner PS.1;have dl:=hin.2.2.2.2.1;have Gs:=aj q.Ja sv;have Dv:Yd q.Ja sv<q.kids.length:=by omega
                  have mR:=Yx dl sv;rw[Eb _ _ _ Dv]at hst;have hkk:=(hin.2.2.2.2.2.2.2 q.kids[Yd q.Ja sv] (Ga _)).1;obtain⟨kb,ko,rfl,Ou,hkc⟩:=Xa.one A9.out _ Dv;generalize q.kids[Yd q.Ja sv]=kq at*
                  obtain⟨ix,fP⟩:∃ix,Yd q.Ja sv=ix:=⟨_,rfl⟩;rw[fP]at Dv mR hkc;have aaV:(ix:Int)<(q.kids.length:Int):=by omega
                  have aaW:(0:Int)<=(ix:Int):=Ab ix;have HST:Hid (((Rc tb y i sv:Nat):Int)=kq):=by show _=_;rw[hst];omega
                  have Og:Hid (∀w',Hid (Below wr.heap.size wr w')->(w'.cell? ⟨W.heap.size+4,0,none⟩=some (.int .i64 q.fact)/\ w'.cell? ⟨W.heap.size+4,1,none⟩=some (.slice qc q.Ja.length eE)/\ w'.cell? ⟨W.heap.size+4,2,none⟩=some (.slice (some ⟨kb,ko,none⟩) q.kids.length eH)/\ w'.cell? ⟨W.heap.size+4,3,none⟩=some (.bool q.leaf)/\ w'.cell? ⟨sb,so+j,none⟩=some (.int .i64 sv)/\ w'.cell? ⟨kb,ko+ix,none⟩=some (.int .i64 kq))/\ Hid (Below wr.heap.size wr w')):=fun w' hb'=>by{have k3:=eT.out w' hb'.out _ _ _ fE.out ia;have dA:Below B W w':=((Cp.out.mono yR).trans ((Gh.out.Al.below ia).mono hB)).trans (hb'.out.mono ia);exact⟨⟨k3.cell 0,k3.cell 1,k3.cell 2,k3.cell 3,HSC.out w' hb'.out,(dA.cell (p:=⟨kb,ko+ix,none⟩) Ou).trans hkc⟩,hb'⟩}
                  have gP:Hid (∀w',Hid (Below wr.heap.size wr w')->Calls Tryz.prog 80 #[.agg #[.int .i64 q.fact,.slice qc q.Ja.length eE,.slice (some ⟨kb,ko,none⟩) q.kids.length eH,.bool q.leaf],.int .i64 sv] w' fun e w''=>e=.returned (.int .i64 (ix:Int))/\ Hid (Below wr.heap.size wr w'')):=fun w' hb'=>by{have dA:Below B W w':=((Cp.out.mono yR).trans ((Gh.out.Al.below ia).mono hB)).trans (hb'.out.mono ia);have qq:=iD q sv _ _ w' B (by have:=hb'.out.size;omega) (IntsIn.below dA PZ.out) (IntsIn.below dA A9.out);rw[mR]at qq;refine qq.mono ?_;rintro e w'' ⟨rfl,h⟩;exact⟨rfl,hb'.out.trans (h.mono hb'.out.size)⟩}
                  have Yi:Hid (Below wr.heap.size wr wb.drew):=XJ.out.drew;clear hst dl Gs mR hkk hkc fP hin PS;go_upto_region 33 with(fail)
                  go_region_held3 (fun w'=>(w'.cell? ⟨W.heap.size+4,0,none⟩=some (.int .i64 q.fact)/\ w'.cell? ⟨W.heap.size+4,1,none⟩=some (.slice qc q.Ja.length eE)/\ w'.cell? ⟨W.heap.size+4,2,none⟩=some (.slice (some ⟨kb,ko,none⟩) q.kids.length eH)/\ w'.cell? ⟨W.heap.size+4,3,none⟩=some (.bool q.leaf)/\ w'.cell? ⟨sb,so+j,none⟩=some (.int .i64 sv)/\ w'.cell? ⟨kb,ko+ix,none⟩=some (.int .i64 kq))/\ Hid (Below wr.heap.size wr w'))
                   (exact Og.out _ Da)
                   ((go_at_call 80;refine(gP.out _ Da).mono ?_;rintro e w7 ⟨rfl,qp⟩))
                  clear Og gP Yi;go_wp2;go_meet;exact⟨by rw[HST.out],qp⟩
                case rest=>
                 obtain⟨rfl,xu⟩:=hcut;rename World=>YW
                 clear q0 q2;have z0:=(eT.out YW xu.out _ _ _ Be.out ia).cell 0;have z1:=(eT.out YW xu.out _ _ _ Gf.out ia).cell 0;have z2:=(eT.out YW xu.out _ _ _ Dj.out ia).cell 0;have BI:Pb d.length ta tb x y<d.length:=by rw[nH.out];exact FK
                 obtain⟨s1,s2⟩:=bz gA gB sv vu.out BI;have s3:Pb d.length ta tb (Rc ta x (Pb d.length ta tb x y) sv) (Rc tb y (Pb d.length ta tb x y) sv)<=d.length:=Wa (Uc _ _) (ig gA.dh.table s1.1);have Tu:=aR.out;have Zp:=Rv.out;unfold Sv at Zp;rw[nH.out]at s1 s2 s3 Tu Zp;have dA:Below B W YW:=((Cp.out.mono yR).trans ((Gh.out.Al.below ia).mono hB)).trans (xu.out.mono ia);have Q3:=xu.out.size;have hnew:∀g,(Value.slice ak r.2.length ck).ownBlock=some g->w8.heap.size<=g:=fun g e=>(Ie Gh.out.own g e).1
                 have dl:∀b∈xe (.slice ak r.2.length ck)++S,b<YW.heap.size:=fun b hb=>by{(rcases List.mem_append.1 hb with hb | hb);{(have e:(Value.slice ak r.2.length ck).ownBlock=some b:=by unfold xe at hb;simpa using hb);obtain⟨_,cs,h4⟩:=Ie Gh.out.own b e;have:=je h4;omega};{have:=Yz.out b hb;have:=Cp.out.size;omega}}
                 have hq:=Gt.out (xe (.slice ak r.2.length ck)++S) r.1.1 r.1.2 M1 _ _ YW dl (td _ kL.out) (fun q hq=>td _ (RW.out q hq)) UU.out.1.inv Gh.out.Cj Gh.out.form s1 ia (Gh.out.tb.below xu.out (ja _)) (Gh.out.mt.below xu.out (ja _)) (Xa.below yo.kept dA HA.out) (Xa.below yo.kept dA Vd.out) (HD.out.below dA);have iZ:bh d ta tb f r.1.1 r.1.2 (Rc ta x i sv) (Rc tb y i sv)=ui d.length ta tb (sJ d.length (Pe d) ta tb) 20000 f r.1.1 r.1.2 (Rc ta x i sv) (Rc tb y i sv):=rfl;rw[<-iZ]at Zp;generalize bh d ta tb f r.1.1 r.1.2 (Rc ta x i sv) (Rc tb y i sv)=bg at*
                 obtain⟨r',kn⟩:=bg;have aaX:=da Zp
                 have HAND:Hid (Calls Tryz.prog 75 #[.pointer (some ⟨K,0,none⟩),.agg #[.slice (some ⟨gb,go,none⟩) ta.length ca],.agg #[.slice (some ⟨hb,ho,none⟩) tb.length cb],.int .i64 ((Rc ta x i sv:Nat):Int),.int .i64 ((Rc tb y i sv:Nat):Int),.agg #[.slice (some ⟨db,df,none⟩) d.length cd],.slice (some ⟨DM,0,none⟩) ta.length ta.length] YW fun e Cx=>e=.returned (.int .i64 (kn:Int))/\ ∃M2,Hid (Hi Cx H K (xe (.slice ak r.2.length ck)++S) r'.1)/\ Hid (Gv Cx DM RS tb.length M2)/\ Hid (Jk d.length ta tb r'.1 r'.2 M2)/\ Hid (Yn ta.length tb.length M2)/\ Hid (ld H (K::RS) wr Cx)/\ Hid (Js (K::RS) K wr Cx)/\ wr.heap.size<=Cx.heap.size):=by{refine hq.mono ?_;rintro e Cx ⟨rfl,M2,h1,h2,h3,h4,h5,h6⟩;exact⟨rfl,M2,h1,h2,h3,h4,(ld.Vb xu.out (ja _)).trans h5,(Js.Vb xu.out (by have:=Cp.out.size;omega)).trans h6 Q3,Wa Q3 h5.size⟩}
                 have aaY:K<w8.heap.size:=by have:=Cp.out.size;omega
                 have S3:Hid (∀q∈RS,q<w8.heap.size):=fun q hq=>by have:=D9.out q hq;have:=Cp.out.size;omega
                 have aaZ:=da hnew;have aba:DM<w8.heap.size:=by have:=Cp.out.size;omega
                 have Dk:Hid (∀Cx,ld H (K::RS) wr Cx->(Cx.alloc (.cells #[.int .i64 (kn:Int)] 3)).ownsRow w8.heap.size 3 1 (.slice ak r.2.length ck) r.2.length (r.2.map iW)):=fun Cx h=>yk Gh.out.own (h.alloc _) ⟨pa,pa⟩ (fun g e e2=>by
                  have h1:=aaZ.out g e
                  rcases List.mem_cons.1 e2 with e2 | e2
                  {omega}
                  ·have:=S3.out _ e2;omega)
                 clear hq iZ Zp s1 s2 s3 Tu dl dA hnew BI JS Rw
                 go_wp2_with (first
                  | (go_at_call 75;refine HAND.out.mono ?_;rintro e Cx ⟨rfl,M2,abb,abc,abd,abe,T3,abf,aeC⟩;have HOW:=da (Dk.out Cx T3.out))
                  | (at_builtin;refine wpList_append_lies _ Ha _ _ 28 Ha w8.heap.size 3 i3 _ 1 8 Tryz.underlying28 GM IM JM KM rfl ia (.slice ak r.2.length ck) r.2.length _ Ha HOW.out ⟨Cx.heap.size,0,none⟩ 1 1 [iW (kn:Int)] Ha Ha (Ai (w:=Cx) (x:=iW (kn:Int)) (t:=3)) (by simp[iW,Value.oneCell']) ia (by unfold maxLen;omega) ia (by simp;omega) (Cx.heap.size+1) la ?_;intro g10 IY Ei pE IK WU U3;have oH:=da (Gh.out.next (k:=(kn:Int)) kL.out aaY S3.out aba abb.out T3.out abf.out abc.out abd.out abe.out IK rfl (WU.imp id (fun e=>by rw[e];simp)) (by rw[Ea,Lb];exact pE));clear pE IK WU U3))
                 have abg:Hid (gZ w8 H K DM RS S d ta tb (r',r.2++[(kn:Int)]) M2 (.slice (some ⟨g10,0,none⟩) (r.2.length+1) IY) Ei):=oH;go_roundw
                 case rel=>exact⟨j+1,(r',r.2++[(kn:Int)]),M2,ia,by go_num,by show _=_;rw[aaX.out],abg⟩
                 case measure=>simp[intOf];omega
            ·as_aux_lemma=>
             have Mk:j=L.length:=by omega
             have ZW:=hr.out;rw[Mk,Jb]at ZW;have lI:=EA.out;rw[<-ZW]at lI
             have dl:∀b∈xe (.slice ak r.2.length ck)++S,b<wr.heap.size:=fun b hb=>by{(rcases List.mem_append.1 hb with hb | hb);{(have e:(Value.slice ak r.2.length ck).ownBlock=some b:=by unfold xe at hb;simpa using hb);obtain⟨_,cs,h4⟩:=Ie Gh.out.own b e;exact je h4};{have:=Yz.out b hb;have:=Cp.out.size;omega}}
             have WW:Me w8 H (K::RS) L (.slice sa L.length sc):=⟨C9.out.ints,fun _ a n c e=>by
              obtain⟨Rw,scs,OG⟩:=C9.out.JW a n c e
              have Rw:W5.heap.size<=a.block:=Rw
              refine⟨je OG,.inr ⟨fun hm=>?_,_,OG,by simp[gi]⟩⟩
              rcases List.mem_cons.1 hm with hm | hm
              {omega}
              ·have:=D9.out _ hm;omega⟩
             have YJ:r.2.length=L.length:=by rw[jS.out,Mk]
             have hi9:((i:Nat):Int)=(i:Int):=rfl;have Lx:=Uo gA Wy.out UU.out.1.inv
             have hq:=dz H K (xe (.slice ak r.2.length ck)++S) r.1.1 i L r.2 (.slice sa L.length sc) (.slice ak r.2.length ck) wr Gh.out.tb dl (WW.step Gh.out.Al).1 (rh Gh.out.own) ia (fun e=>by rw[e]at YJ;simp at YJ;omega) YJ.symm ia (by
              rw[Eb _ _ _ ia]
              exact UU.out.1.ge _ (Ga _))
             have oB:=ez gA gB Wy.out (f+1) HI.out vu.out aR.out;rw[lI]at oB;obtain⟨u,hu⟩:=CI r.1.1 i L r.2;have mA:=Gh.out.Cj.more u;rw[<-hu]at mA;have DI:=oB.2.1.lt;generalize Mc r.1.1 i L r.2=G at*
             obtain⟨m2,kn⟩:=G;have HQI:=da hq;have hKw:K<W.heap.size:=nR
             have bT:Hid (∀w7,Hi w7 H K (xe (.slice ak r.2.length ck)++S) m2->ld H [K] wr w7->Js [K] K wr w7->QW W w7 H K DM RS S d ta tb m2 (((x,y),kn)::r.1.2) M1 x y kn):=fun w7 h7 m7 k7=>by
              have hm8:ld H (K::RS) W wr:=(ld.Vb Cp.out (ja _)).trans Gh.out.Al
              exact⟨h7.less kL.out (fun k hk=>td _ hk),Gh.out.mt.Al m7 (fun h=>HDK.out (List.mem_singleton.1 h)) (fun q hq e=>GZ.out (List.mem_singleton.1 e▸hq)),MF mA Gh.out.form vu.out DI,Gh.out.form,
               hm8.trans (m7.more (fun b hb=>by rw[List.mem_singleton.1 hb];exact Na ..)),DI,
               (((Js.Vb Cp.out hKw).trans Gh.out.kp Cp.out.size).trans (k7.more (fun b hb=>by rw[List.mem_singleton.1 hb];exact Na ..)) hm8.size)⟩
             have abi:=da lI;clear ZW lI dl WW YJ hi9 Lx hq oB hu mA DI Mk p0 p2;go_wp2_with (go_at_call 116;refine HQI.out.mono ?_;rintro e w7 ⟨rfl,h7,m7,k7⟩;have vR:=da (bT.out w7 h7 m7 k7);clear h7 m7 k7);go_meet;exact⟨_,_,_,_,rfl,vR,abi⟩
   case rest=>as_aux_lemma=>{obtain⟨k,m2,NU,M1,rfl,HO,HE⟩:=hcut;have PM:(M1.getD x []).length=tb.length:=by{(have hl:x<M1.length:=by rw[HO.out.form.1];exact hx1);rw[Ra,Pa hl];exact HO.out.form.2 _ (Ga hl)};have c0:=HO.out.mt.cell UJ;have c1:=HO.out.mt.at UJ PM aT;have f1:=HO.out.mt.abj UJ y;have G2:k<=100000:=by{have h1:=ez gA gB Wy.out (f+1) HI.out vu.out aR.out;rw[HE.out]at h1;have h2:m2.length<=20000:=Uo gA Wy.out h1.1;have:=HO.out.lt;omega};have hw:IntKind.i64.wrap ((k:Int)+1)=((k:Int)+1):=Bd _ ia;have hrow:=HO.out.mt.rows x UJ;have HT9:=da (aX HO.out.tbl hrow (RW.out _ (Ga UJ)) (E3.out _ (Ga UJ)) y (.int .i64 ((k:Int)+1)));have iR:=da (HO.out.mt.set (y:=y) UJ (by rw[HO.out.form.1];exact hx1) ((k:Int)+1));have Hw:Hid (ld H (K::RS) W (wc.setCell ⟨RS[x],y,none⟩ (.int .i64 ((k:Int)+1)))):=HO.out.Al.trans (gz (E3.out _ (Ga UJ)) (La _ (Ga UJ)) y _);have HME:=da HO.out.Cj;have abk:=da (HO.out.kp.trans (cX (S':=K::RS) (La _ (Ga UJ)) (fun e=>GZ.out (by rw[<-e];exact Ga UJ)) y (.int .i64 ((k:Int)+1))) HO.out.Al.size);have KR:=da (LL HO.out.form x y ((k:Int)+1) hx1);clear PM hrow G2 z0 z1 z2 p0 p1 p2 p3 q0 q1 q2 q3;go_wp2;go_ret;rw[HE.out];exact⟨rfl,_,HT9.out,iR.out,HME.out,KR.out,Hw.out,abk.out⟩}
end Go.Proofs.YtejbgoigkefnfaaGreatDoor
