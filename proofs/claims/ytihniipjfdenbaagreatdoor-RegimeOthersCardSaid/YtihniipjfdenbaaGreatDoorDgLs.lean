/- The walks of the closure of diagram.Least and of diagram.Least. Bounds on the nodes' rows. -/
import Derived.Test.YtihniipjfdenbaaGreatDoorDgAX
set_option maxRecDepth 100000
set_option maxHeartbeats 4000000
namespace Go.Proofs.YtihniipjfdenbaaGreatDoor
theorem table64 {d:List Fa}{t:List Dn}(h:ValidG d t):∀n∈t,n.kids.length<=1000001/\ n.cuts.length<=1000000/\ 0<=n.fact/\ n.fact<=60/\ (∀x∈n.cuts,0<=x/\ x<=1000000)/\ ∀x∈n.kids,0<=x/\ x<=20000:=by
 intro n hn;have hd:=dom_ok h.dom;have hf:=table_few hd h.table n hn;obtain⟨k,hk,rfl⟩:=List.getElem_of_mem hn;have hp:=h.table k hk;rw[getD_dg _ _ _ hk]at hp;refine⟨hf.1,hf.2,?_⟩;by_cases hz:t[k].kids=[]
 {rw[hz,(hp.leaf hz).2,(hp.leaf hz).1];simp}
 {have hin:=hp.inner hz;have hl:=hd.lohi _ hin.2.2.1;have hdl:=hd.len;refine⟨hin.2.1,by have:=hin.2.2.1;omega,fun x hx=>?_,fun x hx=>?_⟩;{have:=chain_mem _ _ hin.2.2.2.2.2.1 x hx;omega};{have:=hin.2.2.2.2.2.2.2 x hx;have:=h.few;omega}}
theorem valid_64 {d:List Fa}{t:List Dn}(h:ValidG d t):∀n∈t,Dn64 n:=fun n hn=>by
 obtain⟨h1,h2,h3,h4,h5,h6⟩:=table64 h n hn;refine⟨⟨by omega,by omega⟩,fun x hx=>?_,fun x hx=>?_,h2,h1⟩
 {have:=h5 x hx;exact⟨by omega,by omega⟩}
 {have:=h6 x hx;exact⟨by omega,by omega⟩}
section
variable {d : List Fa}
theorem not_valid {t:List Dn}(h:ValidG d t):ValidG d (notD t)/\ ∀c,fitsC d.length (flo d) (fhi d) c->readG d (notD t) 0 c= !readG d t 0 c:=by
 have g:=not_good h.good;have hl:(notD t).length=t.length:=by unfold notD;rw[List.length_map]
 have hv:visitD (notD t) (d.length+1) [] 0=visitD t (d.length+1) [] 0:=visit_kids (not_kids t) _ _ _
 have hV:ValidG d (notD t):=by
  refine⟨h.dom,by rw[hl];exact h.pos,by rw[hl];exact h.few,g.table,g.nodup,?_⟩;rw[hv];have hin:=(visit_order h.good.table h.pos (f:=d.length+1) (by omega)).1;have ha:=h.again;revert ha hin;generalize visitD t (d.length+1) [] 0=o;intro hin ha
  have e:fromD (notD t) o=(fromD t o).map notN:=by
   unfold fromD;rw[List.map_map];refine List.map_congr_left fun k hk=>?_
   rw[notD_get (hin.inside k hk)]
   show(⟨(notN (t.getD k default)).fact,(notN (t.getD k default)).cuts,_,(notN (t.getD k default)).leaf⟩:Dn)=notN ⟨_,_,_,_⟩
   unfold notN;simp[List.map_eq_nil_iff]
  rw[e,ha]
  rfl
 refine⟨hV,fun c fc=>read_one hV.good g _ 0 hV.pos (Nat.le_refl _) c fc⟩
end
open Go.RowKit
theorem least_fuel {nf:Nat}{lo hi:Nat->Int}{t:List Dn}{M:Nat->(Nat->Int)->Bool}(g:GoodT nf lo hi t M):∀(f f' x:Nat) (c:Nat->Int),x<t.length->nf-rankD nf (t.getD x default)<f->nf-rankD nf (t.getD x default)<f'->leastD t f x c=leastD t f' x c:=by
 intro f
 induction f with| zero=>intro f' x c _ h;omega| succ f ih=>{intro f' x c hx h1 h2;obtain⟨f',rfl⟩:∃k,f'=k+1:=⟨f'-1,by omega⟩;unfold leastD;by_cases hk:(t.getD x default).kids=[];{rw[if_pos hk,if_pos hk]};{rw[if_neg hk,if_neg hk];have hf:=first_lt g hx hk;(have hm:(t.getD x default).kids.getD (firstD t (t.getD x default)) 0∈(t.getD x default).kids:=by rw[getD_dg _ _ _ hf];exact List.getElem_mem _);obtain⟨_,b2,b3⟩:=((g.table x hx).inner hk).2.2.2.2.2.2.2 _ hm;(have hr:rankD nf (t.getD x default)=(t.getD x default).fact.toNat:=by unfold rankD;rw[if_neg hk]);have hlt:=((g.table x hx).inner hk).2.2.1;exact ih f' _ _ b2 (by omega) (by omega)}}
def caseL (l:List Int):Nat->Int:=fun i=>l.getD i 0
theorem case_set (l:List Int)(i:Nat)(v:Int)(h:i<l.length):caseL (l.set i v)=updC (caseL l) i v:=by
 funext j
 show(l.set i v).getD j 0=if j=i then v else l.getD j 0
 rw[List.getD_eq_getElem?_getD,List.getD_eq_getElem?_getD,List.getElem?_set];by_cases e:i=j
 {subst e;rw[if_pos rfl,if_pos rfl,if_pos h];rfl}
 {rw[if_neg e,if_neg (fun q=>e q.symm)]}
theorem case_lo (d:List Fa):caseL (d.map Fa.lo)=flo d:=by
 funext j
 show(d.map Fa.lo).getD j 0=(d.getD j default).lo
 rw[List.getD_eq_getElem?_getD,List.getD_eq_getElem?_getD,List.getElem?_map];cases d[j]? with| none=>rfl| some f=>rfl
def endL (d:List Fa)(t:List Dn):(Nat->Int)×Nat:=leastD t (d.length+1) 0 (flo d)
def leastG (d:List Fa)(t:List Dn):Option (List Int):=if validG d t=true then if(t.getD (endL d t).2 default).leaf then some ((List.range d.length).map (endL d t).1)else none else none
theorem case_list {l:List Int}{n:Nat}{F:Nat->Int}(h:l.length=n)(hF:caseL l=F):l=(List.range n).map F:=by
 subst hF;apply List.ext_getElem
 {simp[h]}
 {intro i h1 h2;rw[List.getElem_map,List.getElem_range];show l[i]=l.getD i 0;rw[getD_dg _ _ _ h1]}
section
variable {d : List Fa} {t : List Dn}
variable {d : List Fa} {t : List Dn}
end
theorem least1_any (t:List Dn)(ag:Option Addr)(cg:Nat)(k:Int)(gp:Nat)(w:World)(B:Nat)(hg:SlIn DnR 4 w B t (.slice ag t.length cg))(h1:w.cell? ⟨gp,0,none⟩=some (.slice ag t.length cg))(hk0:0<=k)(hk:k.toNat<t.length):
  Calls Tryz.prog 74 #[.int .i64 k,.pointer (some ⟨gp,0,none⟩)] w fun e w'=>e=.returned (.bool (liveN (t.getD k.toNat default)))/\ Below w.heap.size w w':=by
 have hk1:k<(t.length:Int):=by omega
 obtain⟨b,o,rfl,hbB,vc,vk,n0,n1,n2,n3,hcu,hki⟩:=hg.at k.toNat hk;rw[getD_dg _ _ _ hk];obtain⟨ya,yc,rfl,_⟩:=SlIn.shape hki;have hlv:liveN t[k.toNat]=(!decide (t[k.toNat].kids=[]) || t[k.toNat].leaf):=by unfold liveN;cases t[k.toNat].kids<;>rfl
 have hkl:((t[k.toNat].kids).length=0↔t[k.toNat].kids=[]):=List.length_eq_zero_iff;obtain⟨R,hR⟩:∃R,liveN t[k.toNat]=R:=⟨_,rfl⟩;rw[hR]at hlv⊢;have HLV:=Lib.hid hlv;clear hcu hki hR hlv hg;generalize t[k.toNat].leaf=lf at*
 generalize t[k.toNat].kids=kk at*
 generalize kk.length=kl at*
 by_cases hke:kk=[]
 {have hz:kl=0:=hkl.2 hke;(have hq1:decide ((0:Int)<(kl:Int))=false:=by simp;omega);(have hq2:decide (0<kl)=false:=by simp;omega);have HS:=Lib.hid (show R=lf by rw[HLV.out,decide_eq_true hke];rfl);clear hz hke hkl HLV;go_enter Tryz.func74,Tryz.ntmps74;go_wp2;go_ret;exact⟨ret_bool HS.out.symm,Below.refl _ _⟩}
 {(have hz:kl≠0:=fun e=>hke (hkl.1 e));(have hq1:decide ((0:Int)<(kl:Int))=true:=by simp;omega);(have hq2:decide (0<kl)=true:=by simp;omega);have HS:=Lib.hid (show R=true by rw[HLV.out,decide_eq_false hke];rfl);clear hz hke hkl HLV;go_enter Tryz.func74,Tryz.ntmps74;go_wp2;go_ret;exact⟨ret_bool HS.out.symm,Below.refl _ _⟩}
theorem leastN_any (d:List Fa)(t:List Dn)(vg u:Value)(w:World)(B:Nat)(hB:B<=w.heap.size)(hg:DgIn w B t vg)(hd:DomIn w B d u)(h64:∀n∈t,Dn64 n)(hT:TabH w.heap.size w):
  Calls Tryz.prog 45 #[vg,u] w fun e w'=>∃cv,e=.returned (.tuple #[cv,.bool (leastG d t).isSome])/\ IntsIn w' w'.heap.size ((leastG d t).getD []) cv/\ (∀g,cv.ownBlock=some g->w.heap.size<=g/\ g<w'.heap.size)/\ Below w.heap.size w w':=by
 have HG:=Lib.hid hg;have HD:=Lib.hid hd;obtain⟨_,rfl,hg2⟩:=hg;obtain⟨_,rfl,hd2⟩:=hd;have HG2:=Lib.hid hg2;obtain⟨ag,cg,rfl,l1,l2,_⟩:=SlIn.shape hg2;obtain⟨ad,cd,rfl,_⟩:=SlIn.shape hd2;unfold maxLen at l2;have hb2:Below w.heap.size w ((w.alloc (.cells #[.slice ag t.length cg] 75)).alloc (.cells #[.slice ad d.length cd] 25)):=((Below.refl _ _).alloc (Nat.le_refl _) _).alloc (by simp) _;have K0:Blk ((w.alloc (.cells #[.slice ag t.length cg] 75)).alloc (.cells #[.slice ad d.length cd] 25)) w.heap.size 75 #[.slice ag t.length cg]:=(Blk.new w 75 #[.slice ag t.length cg]).alloc _
 have K1:Blk ((w.alloc (.cells #[.slice ag t.length cg] 75)).alloc (.cells #[.slice ad d.length cd] 25)) (w.heap.size+1) 25 #[.slice ad d.length cd]:=by{have q:=Blk.new (w.alloc (.cells #[.slice ag t.length cg] 75)) 25 #[.slice ad d.length cd];simpa only[World.size_alloc]using q}
 have hs2:(((w.alloc (.cells #[.slice ag t.length cg] 75)).alloc (.cells #[.slice ad d.length cd] 25))).heap.size=w.heap.size+2:=by simp
 obtain⟨W,hW⟩:∃W,((w.alloc (.cells #[.slice ag t.length cg] 75)).alloc (.cells #[.slice ad d.length cd] 25))=W:=⟨_,rfl⟩;rw[hW]at hb2 K0 K1 hs2;have HW:=Lib.hid hW;have HB2:=Lib.hid hb2;have HK0:=Lib.hid K0;have HK1:=Lib.hid K1;have x0:=K0.cell 0;have y0:=K1.cell 0;have hva:=validG_any d t _ _ W B (by omega) (HG.out.below (hb2.mono hB)) (HD.out.below (hb2.mono hB)) h64 (fun w' hb=>hT w' (hb2.trans (hb.mono (by omega))));have HH:=Lib.hid h64;clear hg2 hd2 hW hb2 K0 K1 hT h64;cases hv:validG d t with
 | false=>{(have hG:leastG d t=none:=by unfold leastG;rw[hv];rfl);rw[hG];rw[hv]at hva;have HV:=Lib.hid hva;clear hva hv hG;go_enter Tryz.func45,Tryz.ntmps45;go_upto_region 1 with(fail);rw[HW.out];go_wp2_with (go_at_call 71;refine HV.out.mono ?_;rintro e w3 ⟨rfl,hb3⟩;have y0:=(HK1.out.below hb3).cell 0;have HX0:=Lib.hid (HK0.out.below hb3);have HB3:=Lib.hid (HB2.out.trans (hb3.mono (by omega)));have hs3:=hb3.size;clear hb3);refine bodyPost_ret (by simp[results,Tryz.results45,go_sem];try rfl) rfl ?_;exact⟨_,rfl,⟨none,0,rfl,Nat.le_refl _,Nat.zero_le _,fun h=>absurd rfl h⟩,fun _ h=>(by cases h),HB3.out⟩}
 | true=>
  rw[hv]at hva;have HV:=Lib.hid hva;have HVG:=Lib.hid (valid_iff.1 hv)
  have HFL:Hid (∀w',Below w.heap.size w w'->Calls Tryz.prog 72 #[.agg #[.slice ad d.length cd]] w' fun e w''=>∃u,e=.returned u/\ w''.ownsRow w'.heap.size 3 1 u (d.map Fa.lo).length ((d.map Fa.lo).map iW)/\ Below w'.heap.size w' w''):=fun w' hb=>fleast_any d _ w' B (by have:=hb.size;omega) (HD.out.below (hb.mono hB)) HVG.out.dom
  have hF:Hid (leastG d t=if(t.getD (endL d t).2 default).leaf then some ((List.range d.length).map (endL d t).1)else none):=by show _=_;unfold leastG;rw[if_pos hv]
  have hFU:Hid (∀f,d.length-rankD d.length (t.getD 0 default)<f->leastD t f 0 (caseL (d.map Fa.lo))=endL d t):=fun f hf=>by{rw[case_lo];exact least_fuel HVG.out.good f (d.length+1) 0 (flo d) HVG.out.pos hf (by omega)}
  generalize leastG d t=G at*
  generalize endL d t=F at*
  have hpos:=HVG.out.pos;clear hva hv;go_enter Tryz.func45,Tryz.ntmps45;go_upto_region 1 with(fail);rw[HW.out];go_upto_region 5 with(first | (go_at_call 71;refine HV.out.mono ?_;rintro e w3 ⟨rfl,hb3⟩;have y0:=(HK1.out.below hb3).cell 0;have HX0:=Lib.hid (HK0.out.below hb3);have HB3:=Lib.hid (HB2.out.trans (hb3.mono (by omega)));have hs3:=hb3.size;clear hb3) | (go_at_call 72;refine(HFL.out _ HB3.out).mono ?_;rintro e w4 ⟨u4,rfl,ho4,hb4⟩;have x4:=(HX0.out.below hb4).cell 0;rw[List.length_map]at ho4;have HO4:=Lib.hid ho4;have HB4:=Lib.hid hb4;have hs4:=hb4.size;clear ho4 hb4));obtain⟨ca,cc,hu4⟩:=own_len HO4.out;subst hu4;have HFU:Hid (∀f,d.length<f->leastD t f (0:Int).toNat (caseL (d.map Fa.lo))=F):=fun f hf=>hFU.out f (by omega)
  have hpos2:(0:Int).toNat<t.length:=hpos;have hL0:Hid ((d.map Fa.lo).length=d.length/\ w4.ownsRow w3.heap.size 3 1 (.slice ca d.length cc) d.length ((d.map Fa.lo).map iW)):=⟨List.length_map _,HO4.out⟩;have HDK:=Lib.hid (dom_ok HVG.out.dom);clear hFU x4 HFL HV
  go_loopw [7] (fun av wr=>∃(x:Int) (L:List Int),av=.int .i64 x/\ 0<=x/\ x.toNat<t.length/\ Hid (L.length=d.length/\ wr.ownsRow w3.heap.size 3 1 (.slice ca d.length cc) d.length (L.map iW))/\ Hid (∀f,d.length<f->leastD t f x.toNat (caseL L)=F)/\ Hid (Below w3.heap.size w3 wr)) (fun av _=>d.length-rankD d.length (t.getD (intOf av).toNat default))
  case atStart=>exact⟨0,d.map Fa.lo,rfl,Int.le_refl _,hpos2,hL0,HFU,HB4⟩
  case round=>
   obtain⟨x,L,rfl,hx0,hx1,hLo,hFx,hb⟩:=hrel;clear HFU hL0 hpos2;have hsz:=hb.out.size;have hx2:x<(t.length:Int):=by omega
   have x5:=(HX0.out.below hb.out).cell 0;have HBR:Hid (Below w.heap.size w wr):=HB3.out.trans (hb.out.mono (by omega));obtain⟨b,o,rfl,hbB,vc,vk,n0,n1,n2,n3,hcu,hki⟩:=HG2.out.at x.toNat hx1;have q0:=(HBR.out.cell (p:=⟨b,o+x.toNat*4,none⟩) (by show b<w.heap.size;omega)).trans n0;have q1:=(HBR.out.cell (p:=⟨b,o+x.toNat*4+1,none⟩) (by show b<w.heap.size;omega)).trans n1;have q2:=(HBR.out.cell (p:=⟨b,o+x.toNat*4+2,none⟩) (by show b<w.heap.size;omega)).trans n2;have q3:=(HBR.out.cell (p:=⟨b,o+x.toNat*4+3,none⟩) (by show b<w.heap.size;omega)).trans n3;have hpr:=HVG.out.table x.toNat hx1;have hgetx:=getD_dg t x.toNat default hx1;have hfirst:=fun hk=>first_lt HVG.out.good hx1 hk
   have hF2:=hFx.out;rw[hgetx]at hpr hfirst;have HCU:=Lib.hid hcu;have HKI:=Lib.hid hki;obtain⟨xa,xc,rfl,_⟩:=SlIn.shape hcu;obtain⟨ya,yc,rfl,yk1,yk2,_⟩:=SlIn.shape hki;unfold maxLen at yk2;clear n0 n1 n2 n3 hcu hki;have hkl:((t[x.toNat].kids).length=0↔t[x.toNat].kids=[]):=List.length_eq_zero_iff;by_cases hke:t[x.toNat].kids=[]
   {have hz:t[x.toNat].kids.length=0:=hkl.2 hke;have hFe:F=(caseL L,x.toNat):=by{rw[<-hF2 (d.length+1) (by omega)];unfold leastD;rw[hgetx,if_pos hke]};have hGe:=hF.out;rw[hFe]at hGe;dsimp only at hGe;rw[hgetx, <-case_list hLo.out.1 rfl]at hGe;have HGE:=Lib.hid hGe;clear hGe hFe hF2 hF hFx hfirst hpr hgetx;generalize t[x.toNat]=n at*;(have hq1:decide ((0:Int)<(n.kids.length:Int))=false:=by simp;omega);(have hq2:decide (0<n.kids.length)=false:=by simp;omega);clear hz hke hkl;cases hlf:n.leaf with| true=>{(have hGe:G=some L:=by rw[HGE.out,hlf];rfl);subst hGe;rw[hlf]at q3;clear HGE;go_wp2;refine bodyPost_ret (by simp[results,Tryz.results45,go_sem];try rfl) rfl ?_;exact⟨_,rfl,own_ints (l:=L) (by rw[hLo.out.1];exact hLo.out.2),fun g h=>⟨Nat.le_trans HB3.out.size (hLo.out.2.lt g h).1,(hLo.out.2.lt g h).2⟩,HBR.out⟩}| false=>{(have hGe:G=none:=by rw[HGE.out,hlf];rfl);subst hGe;rw[hlf]at q3;clear HGE;go_wp2;refine bodyPost_ret (by simp[results,Tryz.results45,go_sem];try rfl) rfl ?_;exact⟨_,rfl,⟨none,0,rfl,Nat.le_refl _,Nat.zero_le _,fun h=>absurd rfl h⟩,fun _ h=>(by cases h),HBR.out⟩}}
   ·have hin:=hpr.inner hke
    have hfd:=hfirst hke;have hfe:firstD t t[x.toNat]=(t[x.toNat].kids).findIdx (fun k=>liveN (t.getD k.toNat default)):=rfl
    have hstep:∀f,d.length<f->leastD t f ((t[x.toNat].kids).getD (firstD t t[x.toNat]) 0).toNat (if 0<firstD t t[x.toNat]then updC (caseL L) (t[x.toNat].fact).toNat ((t[x.toNat].cuts).getD (firstD t t[x.toNat]-1) 0)else caseL L)=F:=fun f hf=>by{rw[<-hF2 (f+1) (by omega)];(conv=>rhs;unfold leastD);rw[hgetx,if_neg hke]}
    have hrk:rankD d.length (t.getD x.toNat default)=(t[x.toNat].fact).toNat:=by rw[hgetx];unfold rankD;rw[if_neg hke]
    have hz:t[x.toNat].kids.length≠0:=fun e=>hke (hkl.1 e)
    clear hfirst hF2 hpr hgetx hkl;generalize t[x.toNat]=n at*
    have hq1:decide ((0:Int)<(n.kids.length:Int))=true:=by simp;omega
    have hq2:decide (0<n.kids.length)=true:=by simp;omega
    have hbU:Below wr.heap.size wr (wr.alloc (.cells #[.int .i64 n.fact,.slice xa n.cuts.length xc,.slice ya n.kids.length yc,.bool n.leaf] 106)):=(Below.refl _ _).alloc (Nat.le_refl _) _;have hbUw:Below w.heap.size w (wr.alloc (.cells #[.int .i64 n.fact,.slice xa n.cuts.length xc,.slice ya n.kids.length yc,.bool n.leaf] 106)):=HBR.out.trans (hbU.mono (by omega));have HN:Hid (Blk (wr.alloc (.cells #[.int .i64 n.fact,.slice xa n.cuts.length xc,.slice ya n.kids.length yc,.bool n.leaf] 106)) wr.heap.size 106 #[.int .i64 n.fact,.slice xa n.cuts.length xc,.slice ya n.kids.length yc,.bool n.leaf]):=Blk.new _ _ _;have HX5:Hid (Blk (wr.alloc (.cells #[.int .i64 n.fact,.slice xa n.cuts.length xc,.slice ya n.kids.length yc,.bool n.leaf] 106)) w.heap.size 75 #[.slice (some ⟨b,o,none⟩) t.length cg]):=(HX0.out.below hb.out).alloc _
    have hI:=idxI_any 74 #[.pointer (some ⟨w.heap.size,0,none⟩)] (enters_of Tryz.func74 (by kernel_rfl) rfl) (fun k=>liveN (t.getD k.toNat default)) n.kids (.slice ya n.kids.length yc) (wr.alloc (.cells #[.int .i64 n.fact,.slice xa n.cuts.length xc,.slice ya n.kids.length yc,.bool n.leaf] 106)) B (by rw[World.size_alloc];omega) (IntsIn.below (hbUw.mono hB) HKI.out)
     (fun k hk W' hW'=>least1_any t _ _ k w.heap.size W' B (SlIn.below DnR.kept ((hbUw.trans (hW'.mono (by rw[World.size_alloc];omega))).mono hB) HG2.out) ((HX5.out.below hW').cell 0) (hin.2.2.2.2.2.2.2 k hk).1 (hin.2.2.2.2.2.2.2 k hk).2.1)
    have hfi:=idx_find (fun k:Int=>liveN (t.getD k.toNat default)) n.kids 0;rw[Nat.zero_add,show((0:Nat):Int)=0 from rfl,if_pos (List.any_eq_true.2 (List.findIdx_lt_length.1 (by rw[hfe]at hfd;exact hfd))), <-hfe]at hfi;rw[hfi]at hI;have HI:=Lib.hid hI;have hkm:(n.kids).getD (firstD t n) 0∈n.kids:=by rw[getD_dg _ _ _ hfd];exact List.getElem_mem _
    obtain⟨hk0,hk1,hk2⟩:=hin.2.2.2.2.2.2.2 _ hkm;rw[getD_dg _ _ _ hfd]at hstep hk0 hk1 hk2;obtain⟨kb,ko,hya,hkB,hkc⟩:=SlIn.one HKI.out (firstD t n) hfd;subst hya;have hkc8:Hid (∀w',Below w.heap.size w w'->w'.cell? ⟨kb,ko+firstD t n,none⟩=some (.int .i64 n.kids[firstD t n])):=fun w' hb'=>(hb'.cell (p:=⟨kb,ko+firstD t n,none⟩) (by show kb<w.heap.size;omega)).trans hkc
    have hf0:=hin.2.1;have hf1:=hin.2.2.1;have HCL:=Lib.hid hin.2.2.2.2.1;have hm1:d.length-rankD d.length (t.getD (n.kids[firstD t n]).toNat default)<d.length-rankD d.length (t.getD x.toNat default):=by rw[hrk];omega
    have HHK:Hid (0<=n.kids[firstD t n]/\ (n.kids[firstD t n]).toNat<t.length):=⟨hk0,hk1⟩;have HST:=Lib.hid hstep;clear hI hfi hkm hstep hkc hfe hin hk2 hrk hF hFx;generalize hfdd:firstD t n=fd at*
    clear hfdd;generalize n.kids[fd]=kv at*
    have HM1:=Lib.hid hm1;clear hm1;generalize hfcc:n.fact=fc at*
    obtain⟨fi,rfl⟩:∃fi:Nat,fc=(fi:Int):=⟨fc.toNat,by omega⟩;clear hfcc;rw[Int.toNat_natCast]at HST hf1;have hfx1:(fi:Int)<(d.length:Int):=by omega
    have hfd0:(0:Int)<=(fd:Int):=Int.natCast_nonneg _;have hfd1:(fd:Int)<(n.kids.length:Int):=by omega
    by_cases hfz:fd=0
    {(have hg1:decide ((0:Int)<(fd:Int))=false:=by simp;omega);(have hg2:decide (0<fd)=false:=by simp;omega);(have HS:Hid (∀f,d.length<f->leastD t f kv.toNat (caseL L)=F):=fun f hf=>by{have:=HST.out f hf;rw[if_neg (by omega)]at this;exact this});clear HST hfz;go_wp2_with ((go_at_call 73;refine HI.out.mono ?_;rintro e w8 ⟨rfl,hb8⟩;have p0:=(HN.out.below hb8).cell 0;have p1:=(HN.out.below hb8).cell 1;have p2:=(HN.out.below hb8).cell 2;have HB8:=Lib.hid (hbU.trans (hb8.mono (by simp)));have hs8:=hb8.size;simp only[World.size_alloc]at hs8;clear hb8);have hk9:=hkc8.out w8 (HBR.out.trans (HB8.out.mono (by omega))));go_roundw;(case rel=>exact⟨kv,L,rfl,HHK.out.1,HHK.out.2,⟨hLo.out.1,own_under hLo.out.2 HB8.out⟩,HS,hb.out.trans (HB8.out.mono (by omega))⟩);case measure=>exact HM1.out}
    {obtain⟨fp,hfp⟩:∃fp,fd=fp+1:=⟨fd-1,by omega⟩;(have hfpl:fp<n.cuts.length:=by have:=HCL.out;omega);(have hwr:IntKind.i64.wrap ((fd:Int)-1)=(fp:Int):=by rw[IntWalk.i64_in _ (by omega)];omega);(have hg1:decide ((0:Int)<(fd:Int))=true:=by simp;omega);(have hg2:decide (0<fd)=true:=by simp;omega);obtain⟨jb,jo,hxa,hjB,hjc⟩:=SlIn.one HCU.out fp hfpl;subst hxa;(have hjc8:Hid (∀w',Below w.heap.size w w'->w'.cell? ⟨jb,jo+fp,none⟩=some (.int .i64 n.cuts[fp])):=fun w' hb'=>(hb'.cell (p:=⟨jb,jo+fp,none⟩) (by show jb<w.heap.size;omega)).trans hjc);(have HS:Hid (∀f,d.length<f->leastD t f kv.toNat (caseL (L.set fi n.cuts[fp]))=F):=fun f hf=>by{have:=HST.out f hf;rw[if_pos (by omega),hfp,Nat.add_sub_cancel,getD_dg _ _ _ hfpl, <-case_set L fi _ (by rw[hLo.out.1];exact hf1)]at this;exact this});(have hfpi:(fp:Int)<(n.cuts.length:Int):=by omega);have hfp0:(0:Int)<=(fp:Int):=Int.natCast_nonneg _;obtain⟨cb,cc2,hca,hcb,hcb1⟩:=hLo.out.2.form (by omega);(obtain⟨rfl,rfl⟩:ca=some ⟨cb,0,none⟩/\ cc=cc2:=by simpa using hca);clear HST hfz hjc hfp hca;generalize n.cuts[fp]=cu at*;go_upto_region 9 with((go_at_call 73;refine HI.out.mono ?_;rintro e w8 ⟨rfl,hb8⟩;have p0:=(HN.out.below hb8).cell 0;have p1:=(HN.out.below hb8).cell 1;have p2:=(HN.out.below hb8).cell 2;have HB8:=Lib.hid (hbU.trans (hb8.mono (by simp)));have hs8:=hb8.size;simp only[World.size_alloc]at hs8;clear hb8);have hk9:=hkc8.out w8 (HBR.out.trans (HB8.out.mono (by omega)));have hcu8:=hjc8.out w8 (HBR.out.trans (HB8.out.mono (by omega))));have hO8:=own_under hLo.out.2 HB8.out;have hc8:=hO8.cellAt fi (by omega);have hz8:=hO8.frozenAt fi;have hst:=(World.ownsRow.drew hO8).stored fi (iW cu);rw[List.getElem?_map,List.getElem?_eq_getElem (by rw[hLo.out.1];exact hf1)]at hc8;simp only[Option.map_some]at hc8;have HST:=Lib.hid hst;clear hst;refine wp_region_T 10 (fun w':World=>w'.cell? ⟨wr.heap.size,0,none⟩=some (.int .i64 (fi:Int))/\ w'.cell? ⟨wr.heap.size,1,none⟩=some (.slice (some ⟨jb,jo,none⟩) n.cuts.length xc)/\ w'.cell? ⟨jb,jo+fp,none⟩=some (.int .i64 cu)) (by kernel_rfl) ⟨p0,p1,hcu8⟩ (fun hHeld=>?_);refine xp 0 ?_;refine xp 1 ?_;refine xp 3 ?_;refine xp 5 ?_;refine xk 2 ?v2 ?y2 ?_;(case y2=>(intro w9 hSw;obtain⟨q1,q2,q3⟩:=hSw;go_simp;try with_reducible rfl));refine xk 4 ?v4 ?y4 ?_;(case y4=>(intro w9 hSw;obtain⟨q1,q2,q3⟩:=hSw;go_simp;try with_reducible rfl));refine xp 6 ?_;refine xp 7 ?_;refine xk 8 ?v8 ?y8 ?_;(case y8=>(intro w9 hSw;obtain⟨q1,q2,q3⟩:=hSw;go_simp;try with_reducible rfl));refine xp 9 ?_;refine xl 10 (fun K hK=>?_);go_simp;refine hK.out _ _ ?_;clear hK K;(try simp only[Act.put,sA,sB,sC]);refine wpAnyT_done (by kernel_rfl) ?_ _;skip;(have hbz:∀b',b'≠cb->((w8.setCell ⟨cb,fi,none⟩ (.int .i64 cu)).drew).heap[b']? =w8.heap[b']? :=fun b' hne=>Below.heap_setCell w8 ⟨cb,fi,none⟩ _ b' hne);have p9:((w8.setCell ⟨cb,fi,none⟩ (.int .i64 cu)).drew).cell? ⟨wr.heap.size,2,none⟩=some (.slice (some ⟨kb,ko,none⟩) n.kids.length yc):=(World.cell?_of_block (a:=⟨wr.heap.size,2,none⟩) (hbz wr.heap.size (by omega))).trans p2;have k9:((w8.setCell ⟨cb,fi,none⟩ (.int .i64 cu)).drew).cell? ⟨kb,ko+fd,none⟩=some (.int .i64 kv):=(World.cell?_of_block (a:=⟨kb,_,none⟩) (hbz kb (by omega))).trans hk9;have HB9:Hid (Below w3.heap.size w3 ((w8.setCell ⟨cb,fi,none⟩ (.int .i64 cu)).drew)):=((hb.out.trans (HB8.out.mono (by omega))).setCell (p:=⟨cb,fi,none⟩) (by show w3.heap.size<=cb;omega) _).drew;have HL9:Hid ((L.set fi cu).length=d.length/\ ((w8.setCell ⟨cb,fi,none⟩ (.int .i64 cu)).drew).ownsRow w3.heap.size 3 1 (.slice (some ⟨cb,0,none⟩) d.length cc) d.length ((L.set fi cu).map iW)):=⟨by rw[List.length_set];exact hLo.out.1,by rw[List.map_set];exact HST.out.1⟩;clear hc8 hz8 hO8 hbz p0 p1 p2 hcu8 hk9;generalize(w8.setCell ⟨cb,fi,none⟩ (.int .i64 cu)).drew=w9 at*;go_wp2;go_roundw;(case rel=>exact⟨kv,L.set fi cu,rfl,HHK.out.1,HHK.out.2,HL9,HS,HB9⟩);case measure=>exact HM1.out}
end Go.Proofs.YtihniipjfdenbaaGreatDoor
