/- The walk of pandectref11.Holds. No conditions. -/
import Derived.Test.YtejbgoigkefnfaaGreatDoorAl
import Derived.Test.YtejbgoigkefnfaaGreatDoorDgPC
set_option maxRecDepth 100000
set_option maxHeartbeats 4000000
namespace Go.Proofs.YtejbgoigkefnfaaGreatDoor
open Go.RowKit
def oI (o:List Nat):List Int:=o.map fun(n:Nat)=>(n:Int)
theorem Rz (o:List Nat):(oI o).length=o.length:=by unfold oI;rw[Sa]
theorem UT (o:List Nat)(x:Nat):oI (o++[x])=oI o++[(x:Int)]:=by unfold oI;simp
def fY (w0:World)(base:Nat)(t:List Dn)(vg:Value)(nf f:Nat):Prop:=
 ∀(x:Nat) (o:List Nat) (vo:Value) (W:World),x<t.length->nf-Fb nf (t.getD x default)<f->o.Nodup->(∀y∈o,y<t.length)->Below base w0 W->W.ownsRow base 3 1 vo o.length ((oI o).map iW)->
  Calls Tryz.prog 79 #[vg,.int .i64 (x:Int),vo] W fun e W'=>∃v',e=.returned v'/\ W'.ownsRow base 3 1 v' (Yb t f o x).length ((oI (Yb t f o x)).map iW)/\ Below base w0 W'
theorem CG {w0:World}{B base:Nat}{t:List Dn}{nf:Nat}{lo hi:Nat->Int}{ag:Option Addr}{cg:Nat}(hB:B<=base)(hb0:base<=w0.heap.size)(hg:Xa yo 4 w0 B t (.slice ag t.length cg))(hT:Lg nf lo hi t)(hl:t.length<=900000)(f:Nat)(IH:fY w0 base t (.slice ag t.length cg) nf f):fY w0 base t (.slice ag t.length cg) nf (f+1):=by
 intro x o vo W hx Tu hnd hin Zd hown
 have J4:o.length<=900000:=by{have:=Xc hnd (l₂:=List.range t.length) (fun y hy=>List.mem_range.2 (hin y hy));rw[Pd]at this;omega}
 obtain⟨_,_,e,l1,l2,_⟩:=Xa.shape hg;cases e
 unfold maxLen at l2;obtain⟨gb,go,rfl,vU,vc,vk,n0,n1,n2,n3,Jj,hki⟩:=hg.at x hx;obtain⟨ak,ck,rfl,k1,k2,_⟩:=Xa.shape hki;unfold maxLen at k2;have hT0:=hT;have hp:=hT x hx;have hgx:t.getD x default=t[x]:=Eb _ _ _ hx
 have fR:∀k∈t[x].kids,0<=k/\ k.toNat<t.length/\ nf-Fb nf (t.getD k.toNat default)<f:=by{intro k hk;rw[hgx]at hp Tu;(have hne:t[x].kids≠[]:=fun e=>by rw[e]at hk;cases hk);have h:=hp.inner hne;obtain⟨q1,q2,q3⟩:=h.2.2.2.2.2.2.2 k hk;refine⟨q1,q2,?_⟩;unfold Fb at Tu q3⊢;rw[Aa hne]at Tu;have:=h.2.2.1;omega}
 have dl:t[x].kids.length<=9223372036854775807:=by omega
 obtain⟨R,hR⟩:∃R,Yb t (f+1) o x=R:=⟨_,rfl⟩;rw[hR];have jA:R=if x∈o then o else((t.getD x default).kids).foldl (fun o k=>Yb t f o k.toNat) (o++[x]):=by rw[<-hR];rfl
 rw[hgx]at jA;have HR:=da jA;have zJ:=da hki;have HKD:=da fR;have Gt:=da IH;have di:=da Zd;have FU:=da (And.intro hnd hin);have hws:=Zd.size;have m2:=n2;clear hg hp hgx Tu hR jA hki Jj fR IH hnd hin n0 n1 n3 n2 hT;generalize t[x].kids=kids at*
 obtain⟨oa,oc,hv⟩:=Wd hown;have acu:=Rz o;have HO:=da hown;have xq:(x:Int)<(t.length:Int):=by omega
 have ZY:(0:Int)<=(x:Int):=by omega
 subst hv;clear hown Zd;go_enter Tryz.func79,Tryz.ntmps79;go_wp2
 go_loopw [7] (fun iv wr=>∃j:Nat,j<=o.length/\ iv=.int .i64 j/\ wr=W/\ Hid (∀i (h:i<o.length),i<j->o[i]≠x)) (fun iv _=>o.length-(intOf iv).toNat)
 case atStart=>exact⟨0,ia,rfl,rfl,fun i h hj=>absurd hj (Ib i)⟩
 case round=>
  obtain⟨j,hj,rfl,rfl,hno⟩:=hrel;by_cases hlt:j<o.length
  {obtain⟨g,gc,e,KA,hg2⟩:=HO.out.form ia;(cases e);have hc:wr.cell? ⟨g,j,none⟩=some (.int .i64 ((o[j]:Nat):Int)):=by{have q:=HO.out.cellAt j ia;rw[Kb,Pa (by rw[acu];exact hlt)]at q;unfold oI at q;simpa using q};by_cases pV:o[j]=x;{have HS:=da (show R=o by rw[HR.out,if_pos (by rw[<-pV];exact Ga _)]);(have hd:(((o[j]:Nat):Int)==(x:Int))=true:=by simp[pV]);clear hno pV;generalize o[j]=y at*;go_wp2;go_ret;rw[HS.out];exact⟨_,rfl,HO.out,di.out⟩};{(have hd:(((o[j]:Nat):Int)==(x:Int))=false:=by simpa using(by omega:¬((o[j]:Nat):Int)=(x:Int)));(have HN:Hid (∀i (h:i<o.length),i<j+1->o[i]≠x):=fun i h hi=>by{by_cases e:i=j;{subst e;exact pV};{exact hno.out i h ia}});clear hno pV;generalize o[j]=y at*;go_wp2;go_roundw;(case rel=>exact⟨j+1,ia,by go_num,trivial,HN⟩);case measure=>simp[intOf];omega}}
  ·have wP:x∉o:=fun hm=>by
    obtain⟨i,hi,e⟩:=zb hm;exact hno.out i hi ia e
   have hV:=HR.out;rw[Aa wP]at hV;have HV:=da hV
   have O6:Hid ((o++[x]).Nodup/\ ∀y∈o++[x],y<t.length):=⟨List.nodup_append.2 ⟨FU.out.1,la,fun a ha b hb=>by rw[List.mem_singleton.1 hb];exact fun e=>wP (e▸ha)⟩,fun y hy=>by
    rcases List.mem_append.1 hy with hy | hy
    {exact FU.out.2 y hy}
    ·rw[List.mem_singleton.1 hy];exact hx⟩
   clear hV HR FU hno;go_wp2_with (at_builtin;refine Fe Ha _ _ Ha base (.slice oa o.length oc) o.length (oI o) Ha (HO.out.alloc _) [(x:Int)] 1 Ha ⟨wr.heap.size,0,none⟩ _ Ha (Ai (w:=wr) (x:=iW (x:Int)) (t:=3)) ia (by simp;omega) ?_;intro v5 w5 OJ yp;have Bv:=da OJ;have Jf:Hid (Below base w0 w5):=(di.out.alloc ia _).grown yp (by simp;omega) (fun g hg=>(Ie HO.out g hg).1);clear OJ yp)
   have qs:Hid (w5.ownsRow base 3 1 v5 (o++[x]).length ((oI (o++[x])).map iW)):=by{show World.ownsRow _ _ _ _ _ _ _;rw[UT,Ea];exact Bv.out}
   clear Bv HO di
   go_loopw [2,8] (fun sv iv wr=>∃(j:Nat) (o2:List Nat),j<=kids.length/\ iv=.int .i64 j/\ Hid (o2=(kids.take j).foldl (fun o k=>Yb t f o k.toNat) (o++[x]))/\ Hid (wr.ownsRow base 3 1 sv o2.length ((oI o2).map iW))/\ Hid (Below base w0 wr)/\ Hid (o2.Nodup/\ ∀y∈o2,y<t.length)) (fun _ iv _=>kids.length-(intOf iv).toNat)
   case atStart=>exact⟨0,o++[x],ia,rfl,rfl,qs,Jf,O6⟩
   case round=>(obtain⟨j,o2,hj,rfl,pI,jV,TB,vz⟩:=hrel;clear qs Jf O6;have c2:=(TB.out.cell (p:=⟨gb,go+x*4+2,none⟩) (by show gb<base;omega)).trans m2;by_cases hlt:j<kids.length;{obtain⟨kb,ko,rfl,hkb,hkc⟩:=Xa.one zJ.out j hlt;have bS:=(TB.out.cell (p:=⟨kb,ko+j,none⟩) (by show kb<base;omega)).trans hkc;have hk:=HKD.out kids[j] (Ga _);have xz:(kids.take (j+1)).foldl (fun o k=>Yb t f o k.toNat) (o++[x])=Yb t f o2 kids[j].toNat:=by{rw[Ka hlt,Od, <-pI.out];rfl};generalize kids[j]=kv at*;obtain⟨kn,rfl⟩:∃kn:Nat,kv=kn:=⟨kv.toNat,ia⟩;rw[Gb]at hk xz;have HF:=da xz;have HI:=da (Gt.out kn o2 _ wr hk.2.1 hk.2.2 vz.out.1 vz.out.2 TB.out jV.out);have yP:=da (Ro hT0 f o2 kn hk.2.1 hk.2.2 vz.out.1 vz.out.2).1;clear hkc xz vz pI;go_wp2_with (go_at_call 79;refine HI.out.mono ?_;rintro e w6 ⟨v6,rfl,hO6,Jt⟩;have qs:=da hO6;have eh:=da Jt;clear hO6 Jt);go_roundw;(case rel=>exact⟨j+1,Yb t f o2 kn,ia,by go_num,by show _=_;rw[HF.out],qs,eh,⟨yP.out.nodup,yP.out.inside⟩⟩);case measure=>simp[intOf];omega};{(have Mk:j=kids.length:=ia);have hh:=pI.out;rw[Mk,Jb, <-HV.out]at hh;have HH:=da hh;clear hh pI;go_wp2;go_ret;rw[<-HH.out];exact⟨_,rfl,jV.out,TB.out⟩})
theorem Dt {w0:World}{B base:Nat}{t:List Dn}{nf:Nat}{lo hi:Nat->Int}{ag:Option Addr}{cg:Nat}(hB:B<=base)(hb0:base<=w0.heap.size)(hg:Xa yo 4 w0 B t (.slice ag t.length cg))(hT:Lg nf lo hi t)(hl:t.length<=900000):∀f,fY w0 base t (.slice ag t.length cg) nf f
 | 0=>fun _ _ _ _ _ h=>absurd h (Ib _)
 | f+1=>CG hB hb0 hg hT hl f (Dt hB hb0 hg hT hl f)
theorem VT {n:Dn}{v:Int}{j:Nat}(hj:j<n.Ja.length)(hb:∀i (h:i<n.Ja.length),i<j->¬v<n.Ja[i])(h:v<n.Ja[j]):Lk n v=(j:Int):=by
 have ha:n.Ja.any (fun c=>decide (v<c))=true:=List.any_eq_true.2 ⟨n.Ja[j],Ga _,by simpa using h⟩;unfold Lk;rw[if_pos ha];congr 1
 unfold Yd;rw[List.findIdx_eq hj];exact⟨by simpa using h,fun i hi=>by simpa using hb i ia hi⟩
theorem BQ {n:Dn}{v:Int}(hb:∀i (h:i<n.Ja.length),¬v<n.Ja[i]):Lk n v=(n.kids.length:Int)-1:=by
 have ha:¬n.Ja.any (fun c=>decide (v<c))=true:=by{intro h;obtain⟨x,hx,hd⟩:=List.any_eq_true.1 h;obtain⟨i,hi,rfl⟩:=zb hx;exact hb i hi (by simpa using hd)}
 unfold Lk;rw[Aa ha]
theorem iD (n:Dn)(v:Int)(vc vk:Value)(w:World)(B:Nat)(hB:B<=w.heap.size)(hc:IntsIn w B n.Ja vc)(hk:IntsIn w B n.kids vk):
  Calls Tryz.prog 80 #[.agg #[.int .i64 n.fact,vc,vk,.bool n.leaf],.int .i64 v] w fun e w'=>e=.returned (.int .i64 (Lk n v))/\ Below w.heap.size w w':=by
 have HC:=da hc;obtain⟨ac,cc,rfl,c1,c2,_⟩:=Xa.shape hc;obtain⟨ak,ck,rfl,k1,k2,_⟩:=Xa.shape hk;unfold maxLen at c2 k2;have Ve:Hid (Below w.heap.size w (w.alloc (.cells #[.int .i64 n.fact,.slice ac n.Ja.length cc,.slice ak n.kids.length ck,.bool n.leaf] 56))):=(za _ _).alloc (ja _) _;have Gf:Hid (Bb (w.alloc (.cells #[.int .i64 n.fact,.slice ac n.Ja.length cc,.slice ak n.kids.length ck,.bool n.leaf] 56)) w.heap.size 56 #[.int .i64 n.fact,.slice ac n.Ja.length cc,.slice ak n.kids.length ck,.bool n.leaf]):=Bb.new _ _ _;have hs1:((w.alloc (.cells #[.int .i64 n.fact,.slice ac n.Ja.length cc,.slice ak n.kids.length ck,.bool n.leaf] 56))).heap.size=w.heap.size+1:=by simp
 obtain⟨W,hW⟩:∃W,(w.alloc (.cells #[.int .i64 n.fact,.slice ac n.Ja.length cc,.slice ak n.kids.length ck,.bool n.leaf] 56))=W:=⟨_,rfl⟩;rw[hW]at Ve Gf hs1;have HW:=da hW;have x1:=Gf.out.cell 1;have x2:=Gf.out.cell 2;obtain⟨R,hR⟩:∃R,Lk n v=R:=⟨_,rfl⟩;have HR:=da hR;rw[hR];clear hc hk hW hR;go_enter Tryz.func80,Tryz.ntmps80;go_upto_region 1 with(fail);rw[HW.out];go_wp2
 go_loopw [5] (fun iv wr=>∃j:Nat,j<=n.Ja.length/\ iv=.int .i64 j/\ wr=W/\ Hid (∀i (h:i<n.Ja.length),i<j->¬v<n.Ja[i])) (fun iv _=>n.Ja.length-(intOf iv).toNat)
 case atStart=>exact⟨0,ia,rfl,rfl,fun i h hj=>absurd hj (Ib i)⟩
 case round=>(obtain⟨j,hj,rfl,rfl,hno⟩:=hrel;by_cases hlt:j<n.Ja.length;{obtain⟨b,o,rfl,Rj,hcc⟩:=Xa.one HC.out j hlt;have q0:=(Ve.out.cell (p:=⟨b,o+j,none⟩) (by show b<w.heap.size;omega)).trans hcc;by_cases hv:v<n.Ja[j];{have HS:=da ((VT hlt hno.out hv).symm.trans HR.out);(have Nu:decide (v<n.Ja[j])=true:=by simpa using hv);clear hcc hv hno;generalize n.Ja[j]=cv at*;go_wp2;go_ret;exact⟨ke HS.out,Ve.out⟩};{(have Nu:decide (v<n.Ja[j])=false:=by simpa using hv);(have HN:Hid (∀i (h:i<n.Ja.length),i<j+1->¬v<n.Ja[i]):=fun i h hi=>by{by_cases e:i=j;{subst e;exact hv};{exact hno.out i h ia}});clear hcc hv hno;generalize n.Ja[j]=cv at*;go_wp2;go_roundw;(case rel=>exact⟨j+1,ia,by go_num,trivial,HN⟩);case measure=>simp[intOf];omega}};{have HS:=da ((BQ (n:=n) (v:=v) (fun i h=>hno.out i h ia)).symm.trans HR.out);have hwr:IntKind.i64.wrap ((n.kids.length:Int)-1)=(n.kids.length:Int)-1:=Bd _ ia;clear hno;go_wp2;go_ret;exact⟨ke HS.out,Ve.out⟩})
def Sz (n:Dn):Bool:=n.kids.isEmpty&& (n.Ja.isEmpty&& n.fact==0)
theorem lM (n:Dn)(vc vk:Value)(w:World)(B:Nat)(_:B<=w.heap.size)(hc:IntsIn w B n.Ja vc)(hk:IntsIn w B n.kids vk):
  Calls Tryz.prog 120 #[.agg #[.int .i64 n.fact,vc,vk,.bool n.leaf]] w fun e w'=>e=.returned (.bool (Sz n))/\ Below w.heap.size w w':=by
 obtain⟨ac,cc,rfl,c1,c2,_⟩:=Xa.shape hc;obtain⟨ak,ck,rfl,k1,k2,_⟩:=Xa.shape hk;have Ve:Hid (Below w.heap.size w (w.alloc (.cells #[.int .i64 n.fact,.slice ac n.Ja.length cc,.slice ak n.kids.length ck,.bool n.leaf] 56))):=(za _ _).alloc (ja _) _;have Gf:Hid (Bb (w.alloc (.cells #[.int .i64 n.fact,.slice ac n.Ja.length cc,.slice ak n.kids.length ck,.bool n.leaf] 56)) w.heap.size 56 #[.int .i64 n.fact,.slice ac n.Ja.length cc,.slice ak n.kids.length ck,.bool n.leaf]):=Bb.new _ _ _;obtain⟨W,hW⟩:∃W,(w.alloc (.cells #[.int .i64 n.fact,.slice ac n.Ja.length cc,.slice ak n.kids.length ck,.bool n.leaf] 56))=W:=⟨_,rfl⟩;rw[hW]at Ve Gf;have HW:=da hW;have x0:=Gf.out.cell 0;have x1:=Gf.out.cell 1;have x2:=Gf.out.cell 2
 have HR:Hid (Sz n=(((n.kids.length:Int)==0)&& (((n.Ja.length:Int)==0)&& n.fact==0))):=by{show _=_;unfold Sz;rw[fh,fh];obtain⟨nf,nc,nk,nl⟩:=n;cases nk<;>cases nc<;>simp}
 clear hc hk hW;generalize Sz n=R at*
 cases e1:((n.kids.length:Int)==0)with| false=>{have HS:=da (show R=false by rw[HR.out,e1];rfl);go_enter Tryz.func120,Tryz.ntmps120;go_upto_region 1 with(fail);rw[HW.out];go_wp2;go_ret;exact⟨Oa HS.out.symm,Ve.out⟩}| true=>{cases e2:((n.Ja.length:Int)==0)with| false=>{have HS:=da (show R=false by rw[HR.out,e1,e2];rfl);go_enter Tryz.func120,Tryz.ntmps120;go_upto_region 1 with(fail);rw[HW.out];go_wp2;go_ret;exact⟨Oa HS.out.symm,Ve.out⟩}| true=>{have HS:=da (show(n.fact==0)=R by rw[HR.out,e1,e2];rfl);go_enter Tryz.func120,Tryz.ntmps120;go_upto_region 1 with(fail);rw[HW.out];go_wp2;go_ret;exact⟨Oa HS.out,Ve.out⟩}}
theorem dJ (t:List Dn)(c:List Int)(vg u:Value)(w:World)(B:Nat)(hB:B<=w.heap.size)(hg:oe w B t vg)(hc:IntsIn w B c u):
  Calls Tryz.prog 30 #[vg,u] w fun e w'=>e=.returned (.bool (Vk t c t.length 0))/\ Below w.heap.size w w':=by
 have HC:=da hc;obtain⟨_,rfl,hg2⟩:=hg;have Uv:=da hg2;obtain⟨ag,cg,rfl,l1,l2,_⟩:=Xa.shape hg2;obtain⟨ac,cc,rfl,m1,m2,_⟩:=Xa.shape hc;unfold maxLen at l2 m2;obtain⟨R,hR⟩:∃R,Vk t c t.length 0=R:=⟨_,rfl⟩;rw[hR];have HR:Hid (R=Vk t c (t.length-0) 0):=hR.symm;clear hR;have Ve:Hid (Below w.heap.size w (w.alloc (.cells #[.slice ag t.length cg] 34))):=(za _ _).alloc (ja _) _;have Gf:Hid (Bb (w.alloc (.cells #[.slice ag t.length cg] 34)) w.heap.size 34 #[.slice ag t.length cg]):=Bb.new _ _ _;have hs1:(w.alloc (.cells #[.slice ag t.length cg] 34)).heap.size=w.heap.size+1:=by simp
 obtain⟨W,hW⟩:∃W,(w.alloc (.cells #[.slice ag t.length cg] 34))=W:=⟨_,rfl⟩;rw[hW]at Ve Gf hs1;have HW:=da hW;have x0:=Gf.out.cell 0;clear hg2 hc hW;go_enter Tryz.func30,Tryz.ntmps30;go_upto_region 1 with(fail);rw[HW.out];go_wp2
 go_loopw [5,6] (fun av iv wr=>∃(j:Nat) (a:Int),j<=t.length/\ iv=.int .i64 j/\ av=.int .i64 a/\ Hid (R=Vk t c (t.length-j) a)/\ Hid (Below W.heap.size W wr)) (fun _ iv _=>t.length-(intOf iv).toNat)
 case atStart=>exact⟨0,0,ia,rfl,rfl,HR,za _ _⟩
 case round=>
  obtain⟨j,a,hj,rfl,rfl,hin,hb⟩:=hrel;have hsz:=hb.out.size;have zj:Hid (Below w.heap.size w wr):=Ve.out.trans (hb.out.mono ia);clear x0 HR;have x0:=(Gf.out.below hb.out).cell 0;by_cases hlt:j<t.length
  ·have hf:t.length-j=(t.length-(j+1))+1:=by omega
   have ng:=hin.out;rw[hf,Vk]at ng;clear hf;by_cases g1:a<0
   {(have XK:decide (a<0)=true:=by simpa using g1);have HS:=da (show R=false by rw[ng,if_pos (.inl g1)]);clear hin ng g1;go_wp2;go_ret;exact⟨Oa HS.out.symm,zj.out⟩}
   ·have XK:decide (a<0)=false:=by simpa using g1
    by_cases g2:(t.length:Int)<=a
    {(have YK:decide ((t.length:Int)<=a)=true:=by simpa using g2);have HS:=da (show R=false by rw[ng,if_pos (.inr g2)]);clear hin ng g2;go_wp2;go_ret;exact⟨Oa HS.out.symm,zj.out⟩}
    ·have YK:decide ((t.length:Int)<=a)=false:=by simpa using g2
     have ha0:0<=a:=by omega
     have jR:a<(t.length:Int):=by omega
     have hat:a.toNat<t.length:=by omega
     rw[Aa ia,Eb _ _ _ hat]at ng;obtain⟨b,o,rfl,Rj,vc,vk,n0,n1,n2,n3,Jj,hki⟩:=Uv.out.at a.toNat hat;have q0:=(zj.out.cell (p:=⟨b,o+a.toNat*4,none⟩) (by show b<w.heap.size;omega)).trans n0;have q1:=(zj.out.cell (p:=⟨b,o+a.toNat*4+1,none⟩) (by show b<w.heap.size;omega)).trans n1;have q2:=(zj.out.cell (p:=⟨b,o+a.toNat*4+2,none⟩) (by show b<w.heap.size;omega)).trans n2;have q3:=(zj.out.cell (p:=⟨b,o+a.toNat*4+3,none⟩) (by show b<w.heap.size;omega)).trans n3;have Kn:=da ng;generalize t[a.toNat]=x at*
     have OV:=da Jj;have zJ:=da hki;obtain⟨xa,xc,rfl,_⟩:=Xa.shape Jj;obtain⟨ya,yc,rfl,y1,y2,_⟩:=Xa.shape hki;unfold maxLen at y2;clear n0 n1 n2 n3 Jj hki hin ng g1 g2;have Ff:Below wr.heap.size wr (wr.alloc (.cells #[.int .i64 x.fact,.slice xa x.Ja.length xc,.slice ya x.kids.length yc,.bool x.leaf] 56)):=(za _ _).alloc (ja _) _;have HX:=da (Bb.new wr 56 #[.int .i64 x.fact,.slice xa x.Ja.length xc,.slice ya x.kids.length yc,.bool x.leaf]);have p0:=HX.out.cell 0;have p1:=HX.out.cell 1;have p2:=HX.out.cell 2;have p3:=HX.out.cell 3;cases e1:((x.kids.length:Int)==0)with
     | true=>{(have Ii:x.kids=[]:=by rw[fh]at e1;simpa using e1);have HS:=da (show R=x.leaf by rw[Kn.out,if_pos Ii]);clear Kn Ii;go_wp2;go_ret;exact⟨Oa HS.out.symm,zj.out.trans (Ff.mono ia)⟩}
     | false=>
      have Ii:x.kids≠[]:=fun e=>by rw[fh,e]at e1;simp at e1
      have ow:=Kn.out;rw[Aa Ii]at ow;clear Kn;by_cases g3:x.fact<0
      {(have j5:decide (x.fact<0)=true:=by simpa using g3);have HS:=da (show R=false by rw[ow,if_pos (.inl g3)]);clear ow g3 Ii;go_wp2;go_ret;exact⟨Oa HS.out.symm,zj.out.trans (Ff.mono ia)⟩}
      ·have j5:decide (x.fact<0)=false:=by simpa using g3
       by_cases g4:(c.length:Int)<=x.fact
       {(have g4d:decide ((c.length:Int)<=x.fact)=true:=by simpa using g4);have HS:=da (show R=false by rw[ow,if_pos (.inr g4)]);clear ow g4 Ii;go_wp2;go_ret;exact⟨Oa HS.out.symm,zj.out.trans (Ff.mono ia)⟩}
       ·have g4d:decide ((c.length:Int)<=x.fact)=false:=by simpa using g4
        have C0:0<=x.fact:=by omega
        have KO:x.fact<(c.length:Int):=by omega
        have fW:x.fact.toNat<c.length:=by omega
        rw[Aa ia,Eb _ _ _ fW]at ow;obtain⟨kb,ko,rfl,Ou,hkc⟩:=Xa.one HC.out x.fact.toNat fW;have Jn:=((zj.out.trans (Ff.mono ia)).cell (p:=⟨kb,ko+x.fact.toNat,none⟩) (by show kb<w.heap.size;omega)).trans hkc;have hge:=ZF Ii c[x.fact.toNat];have Gs:=iD x c[x.fact.toNat] (.slice xa x.Ja.length xc) (.slice ya x.kids.length yc);generalize c[x.fact.toNat]=cv at*
        have HN:Hid (∀W',Hid (Below (wr.heap.size+1) (wr.alloc (.cells #[.int .i64 x.fact,.slice xa x.Ja.length xc,.slice ya x.kids.length yc,.bool x.leaf] 56)) W')->Calls Tryz.prog 80 #[.agg #[.int .i64 x.fact,.slice xa x.Ja.length xc,.slice ya x.kids.length yc,.bool x.leaf],.int .i64 cv] W' fun e w'=>e=.returned (.int .i64 (Lk x cv))/\ Hid (Below W'.heap.size W' w')):=fun W' hw=>Gs W' B (by have:=hw.out.size;simp at this;omega) (IntsIn.below ((zj.out.trans ((Ff.trans (hw.out.mono ia)).mono ia)).mono hB) OV.out) (IntsIn.below ((zj.out.trans ((Ff.trans (hw.out.mono ia)).mono ia)).mono hB) zJ.out)
        have Uu:Hid (∀w',Hid (Below (wr.heap.size+1) (wr.alloc (.cells #[.int .i64 x.fact,.slice xa x.Ja.length xc,.slice ya x.kids.length yc,.bool x.leaf] 56)) w')->(w'.cell? ⟨wr.heap.size,0,none⟩=some (.int .i64 x.fact)/\ w'.cell? ⟨wr.heap.size,1,none⟩=some (.slice xa x.Ja.length xc)/\ w'.cell? ⟨wr.heap.size,2,none⟩=some (.slice ya x.kids.length yc)/\ w'.cell? ⟨wr.heap.size,3,none⟩=some (.bool x.leaf)/\ w'.cell? ⟨kb,ko+x.fact.toNat,none⟩=some (.int .i64 cv))/\ Hid (Below (wr.heap.size+1) (wr.alloc (.cells #[.int .i64 x.fact,.slice xa x.Ja.length xc,.slice ya x.kids.length yc,.bool x.leaf] 56)) w')):=by{intro w' hw;have z:=HX.out.below (by rw[Ba];exact hw.out);exact⟨⟨z.cell 0,z.cell 1,z.cell 2,z.cell 3,(hw.out.cell (p:=⟨kb,ko+x.fact.toNat,none⟩) (by show kb<wr.heap.size+1;omega)).trans Jn⟩,hw⟩}
        have HW0:Hid (Below (wr.heap.size+1) (wr.alloc (.cells #[.int .i64 x.fact,.slice xa x.Ja.length xc,.slice ya x.kids.length yc,.bool x.leaf] 56)) ((wr.alloc (.cells #[.int .i64 x.fact,.slice xa x.Ja.length xc,.slice ya x.kids.length yc,.bool x.leaf] 56))).drew):=(za _ _).drew;generalize Lk x cv=kx at*
        clear Gs hkc g3 g4;go_upto_region 12 with(fail)
        go_region_held3 (fun w'=>(w'.cell? ⟨wr.heap.size,0,none⟩=some (.int .i64 x.fact)/\ w'.cell? ⟨wr.heap.size,1,none⟩=some (.slice xa x.Ja.length xc)/\ w'.cell? ⟨wr.heap.size,2,none⟩=some (.slice ya x.kids.length yc)/\ w'.cell? ⟨wr.heap.size,3,none⟩=some (.bool x.leaf)/\ w'.cell? ⟨kb,ko+x.fact.toNat,none⟩=some (.int .i64 cv))/\ Hid (Below (wr.heap.size+1) (wr.alloc (.cells #[.int .i64 x.fact,.slice xa x.Ja.length xc,.slice ya x.kids.length yc,.bool x.leaf] 56)) w'))
         (exact Uu.out _ Da)
         ((go_at_call 80;refine(HN.out _ Da).mono ?_;rintro e w8 ⟨rfl,ei⟩;have Cp:Hid (Below (wr.heap.size+1) (wr.alloc (.cells #[.int .i64 x.fact,.slice xa x.Ja.length xc,.slice ya x.kids.length yc,.bool x.leaf] 56)) w8):=HW0.out.trans (ei.out.mono la)))
        clear p0 p1 p2 p3 Jn Uu HN HW0;go_split_ands;have SG:=Cp.out.size;simp only[Ba]at SG;have di:Hid (Below W.heap.size W w8):=hb.out.trans ((Ff.trans (Cp.out.mono ia)).mono hsz);by_cases g5:(x.kids.length:Int)<=kx
        {(have g5d:decide ((x.kids.length:Int)<=kx)=true:=by simpa using g5);have HS:=da (show R=false by rw[ow,if_pos g5]);clear ow g5 Ii;go_wp2;go_ret;exact⟨Oa HS.out.symm,Ve.out.trans (di.out.mono ia)⟩}
        {(have g5d:decide ((x.kids.length:Int)<=kx)=false:=by simpa using g5);(have hx1:kx<(x.kids.length:Int):=ia);(have hx2:kx.toNat<x.kids.length:=ia);rw[Aa g5,Eb _ _ _ hx2]at ow;obtain⟨jb,jo,hja,hjB,hjc⟩:=Xa.one zJ.out kx.toNat hx2;subst hja;have hj2:=((Ve.out.trans (di.out.mono ia)).cell (p:=⟨jb,jo+kx.toNat,none⟩) (by show jb<w.heap.size;omega)).trans hjc;generalize x.kids[kx.toNat]=av at*;have HS:=da ow;clear ow g5 Ii hjc;go_wp2;go_roundw;(case rel=>exact⟨j+1,av,ia,by go_num,rfl,HS,di⟩);case measure=>simp[intOf];omega}
  ·have HS:=da (show R=false by
    have h:=hin.out
    rw[show t.length-j=0 by omega]at h
    exact h)
   clear hin;go_wp2;go_ret;exact⟨Oa HS.out.symm,zj.out⟩
end Go.Proofs.YtejbgoigkefnfaaGreatDoor
