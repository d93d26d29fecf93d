/- The walk of law16.JudgeRegions. No conditions. -/
import Derived.Test.YtdipkbobalnilaaGreatDoorAl
import Derived.Test.YtdipkbobalnilaaGreatDoorJdBA
namespace Go.Proofs.YtdipkbobalnilaaGreatDoor
open Tryz
open Go.RowKit
variable{D:List Fa}{C:List Int}{P:List Pv}
set_option maxRecDepth 100000 in
set_option maxHeartbeats 4000000 in
theorem Yv{v cv:Ea}(w:Ca)(hl:Gj w w.heap.size D P C v)(wU:∀p∈P,Wh p.value){q:Na}(_:q.size<=maxLen){c:List Int}(hc:Ob w w.heap.size c cv)(hT:Jh w.heap.size w):
  Db 5 #[v,.string q,cv] w λe b=>e=.returned (.bool true)/\Da w.heap.size w b:=by
 have QW:=hl;obtain⟨u1,u2,u3,rfl,hd,hp,ht⟩:=hl;obtain⟨ad,cd,rfl,_⟩:=Sa.shape hd;obtain⟨ap,cp,rfl,p1,p2,_⟩:=Sa.shape hp;obtain⟨at_,ct,rfl,_⟩:=Sa.shape ht;have HC:=la hc;obtain⟨ac,cc,rfl,_⟩:=Sa.shape hc;have HV:=la wU;have t:=wN (cs:=#[.slice ad D.length cd,.slice ap P.length cp,.slice at_ C.length ct]) QW hT
 (have Q:=t.o.box.cell 0;have y1:=t.o.box.cell 1;have y2:=t.o.box.cell 2)
 clear QW hd hp ht hT hc wU;go_enter func5,ntmps5;go_upto_region 2 with(go_at_call 6;refine(FR t).mono ?_;rintro e w2 ⟨rfl,f⟩;(clear Q y1 y2;have t:=f;clear f;(have Q:=t.o.box.cell 0;have y1:=t.o.box.cell 1;have y2:=t.o.box.cell 2)));go_upto_region 4 with(go_at_call 7;refine(yV t 6 Ba Ba).mono ?_;rintro e w2 ⟨⟨bb,rfl,hf⟩,f⟩;(clear Q y1 y2;have t:=f;clear f;(have Q:=t.o.box.cell 0;have y1:=t.o.box.cell 1;have y2:=t.o.box.cell 2));cases bb)
 any_goals(go_ret;exact⟨rfl,t.o.low⟩)
 have HS:=zV Ba (hf trivial) HV.o;clear hf;obtain⟨⟨RR,er⟩,hr⟩:∃X,bj D P C q=X:=⟨_,rfl⟩;have HR:=la hr;clear hr;go_upto_region 5 with(go_at_call 9;refine(Yw t HS q yR PZ HR.o).mono ?_;rintro e w3 ⟨ra,rc,F,rfl,f,HY⟩;(clear Q y1 y2;have t:=f;clear f;(have Q:=t.o.box.cell 0;have y1:=t.o.box.cell 1;have y2:=t.o.box.cell 2)));by_cases g:er=0
 ·subst g
  have XC:=la (Sa.mono (Ad.mono _) t.o.low.size (Ob.below t.o.low HC.o));obtain⟨⟨Z,ea⟩,hA⟩:∃X,Df D P C q c=X:=⟨_,rfl⟩;have HA:=la hA;clear hA;go_upto_region 8 with(go_at_call 8;refine(Is t HS q XC HA.o).mono ?_;rintro e w4 ⟨ba,bc,oa,oc,rfl,f,cS,Lk⟩);obtain⟨FA,U4⟩:=Ko cS;have A:=la (Lk.o.trans (U4.o.mono Lk.o.size));have J:Hid (LR w _ w.heap.size D P C _ _ _ _ c _ _ Z ba bc oa oc _ _ rc F):=⟨f.o.step U4.o,HY.o.row.below A.o,FA,Sa.mono (Ad.mono _) A.o.size (Ob.below A.o XC.o)⟩;have HF:=la (GR HR.o HA.o (HY.o.ok rfl).1 (HY.o.ok rfl).2)
  have J2:F.length<=maxLen:=by{(rcases HY.o.row.Pd with⟨_,e⟩|⟨_,cap,_,_,_,_,h1,h2,_⟩);{rw[e];exact Lb _};{exact ub h1 h2}}
  unfold maxLen at J2;clear f cS Lk U4 A XC HY HR FA t Q y1 y2;generalize w2.heap.size=bR at*
  generalize w4.heap.size=Y at*
  generalize w4.alloc _=W4 at*
  go_upto_region 11 with(fail)
  go_loopw [12,13,14] (λvl vi i wr=>∃k n:Nat,k<=F.length/\i=pa k/\vi=pa n/\Hid (n<=k/\(ea=0->n=((F.take k).filter (Yt c)).length))/\Hid (LR w wr w.heap.size D P C (.slice ad D.length cd) (.slice ap P.length cp) (.slice at_ C.length ct) #[.slice ad D.length cd,.slice ap P.length cp,.slice at_ C.length ct] c (.slice ac c.length cc) Y Z ba bc oa oc bR ra rc F)/\Hid (0<k->∃z,F[k-1]? =some z/\Ob wr wr.heap.size (gh D z.r.1) vl)) (λ_ _ i _=>F.length-(intOf i).toNat)
  case atStart=>exact⟨0,0,Lb _,rfl,rfl,⟨wa _,λ_=>Aa⟩,J,λh=>absurd h (Nat.lt_irrefl _)⟩
  case round=>
   obtain⟨k,n,hk,rfl,rfl,HI,J,HLA⟩:=hrel;have hn:=HI.o.1;by_cases hlt:k<F.length
   ·have hm:=Oa hlt
    obtain⟨L1,L2,L3⟩:=HF.o.least _ hm;obtain⟨G,rfl,d⟩:=OC J.o.row hlt;have HHO:=la λe=>HF.o.holds e _ hm
    have U:=la (AV (c:=c) hlt);obtain⟨x,W⟩:∃x,F[k]=x:=⟨_,rfl⟩;rw[W]at hm L1 L2 L3 d HHO U;have HDI:Hid (∀i,(hi:i<k)->Gx (F[i]'(by omega)).r.2 x.r.2=false):=λi hi=>W▸HF.o.diff i k hi hlt
    have F6:Hid (0<k->∀z,F[k-1]? =some z->Aj (gh D z.r.1) (gh D x.r.1)=true):=λhi z hz=>by{have:=HF.o.less (k-1) k ja hlt;rw[Xa ja,Yg]at hz;rwa[hz,W]at this}
    have HX:Hid (F[k]? =some x):=W▸Xa hlt;have HM:=la hm;have YX:=la L1;have f:=la L2;clear hm L1 L2 L3 W;have kF:(0:Int)<=(k:Int):=Xb _;have CZ:(k:Int)<(F.length:Int):=by omega
    have V:Hid (∀b,Hid (Da wr.heap.size wr b)->(b.cell? (Ya w.heap.size)=some (.slice ad D.length cd)/\b.cell? (Ja G (k*5))=some (.slice x.a x.n x.c))/\Hid (Da wr.heap.size wr b)):=λb E=>⟨⟨(J.o.law.o.box.below E.o).cell 0,(d.o b E).1⟩,E⟩
    have I:Hid (Da wr.heap.size wr wr.drew):=(za _ _).drew;go_upto_region 13 with(fail)
    go_region_held3 (λb=>(b.cell? (Ya w.heap.size)=some (.slice ad D.length cd)/\b.cell? (Ja G (k*5))=some (.slice x.a x.n x.c))/\Hid (Da wr.heap.size wr b))
     (exact V.o _ La)
     ((go_at_call 18;refine(IR J.o.law (J.o.row.o.ok _ HM.o) YX.o La).mono ?_;rintro e L ⟨ca,ck,rfl,J',dr⟩))
    go_split_ands;clear V I YX;have V:=CE d dr;clear d;have d:=V;clear V;have K:=LR.step J dr
    have HL5:Hid (0<k->∃z,F[k-1]? =some z/\Ob L L.heap.size (gh D z.r.1) u12):=λh=>by{obtain⟨z,h1,h2⟩:=HLA.o h;exact⟨z,h1,Oq h2 dr⟩}
    clear J HLA;have uL:Hid (∀b,Hid (Da L.heap.size L b)->(b.cell? (Ya w.heap.size)=some (.slice ad D.length cd)/\b.cell? (Ja G (k*5))=some (.slice x.a x.n x.c))/\Hid (Da L.heap.size L b)):=λb E=>⟨⟨(K.o.law.o.box.below E.o).cell 0,(d.o b E).1⟩,E⟩
    have I:Hid (Da L.heap.size L L.drew):=(za _ _).drew;go_upto_region 14 with(fail)
    go_cut[95] (λs95 w6=>s95=.bool false/\Hid (Da L.heap.size L w6))
    ·rcases Nat.eq_zero_or_pos k with EI|EI
     {subst EI;refine wp_region_held_drew (S:=λb:Ca=>Hid (Da L.heap.size L b)) Ha I (λMb=>?_);refine tp 0 ?_;refine tp 1 ?_;refine tp 2 ?_;refine tp 3 ?_;refine tp 4 ?_;refine tp 8 ?_;refine tp 5 ?_;refine tk 9 ?v9 ?y9 ?_;(case y9=>(intro w9 Be;obtain⟨⟨Q,x0⟩,_⟩:=uL.o w9 Be;go_simp;try with_reducible rfl));refine tp 6 ?_;refine tk 7 ?v7 ?y7 ?_;(case y7=>(intro w9 Be;obtain⟨⟨Q,x0⟩,_⟩:=uL.o w9 Be;go_simp;try with_reducible rfl));refine tr 10 (λKK hK=>?_);go_simp;(go_at_call 19;refine(mH K.o.law (K.o.row.o.ok _ HM.o) Mb).mono ?_;rintro e w6 ⟨rfl,H⟩);refine hK.o _ _ H (λMb=>?_);clear hK;refine tp 11 ?_;refine tp 12 ?_;refine tp 13 ?_;refine tp 14 ?_;refine tp 15 ?_;refine tp 16 ?_;refine tu 17 ?_;refine tu 18 ?_;refine tu 19 ?_;refine tu 20 ?_;refine tp 21 ?_;refine tp 22 ?_;refine wpAnyH_done Ha ?_ _;go_wp2;go_meet;exact⟨rfl,H⟩}
     ·obtain⟨z,hz,JU⟩:=HL5.o EI
      have HIL:=la JU;have HZ:=la (F6.o EI z hz);have t14:decide ((0:Int)<(k:Int))=true:=by simpa using EI
      go_region_held3 (λb=>(b.cell? (Ya w.heap.size)=some (.slice ad D.length cd)/\b.cell? (Ja G (k*5))=some (.slice x.a x.n x.c))/\Hid (Da L.heap.size L b))
       (exact uL.o _ La)
       (first
        | (go_at_call 19;refine(mH K.o.law (K.o.row.o.ok _ HM.o) La).mono ?_;rintro e w6 ⟨rfl,H⟩)
        | (go_at_call 20;refine(BV HIL J' HZ.o La).mono ?_;rintro e w7 ⟨rfl,R⟩))
      go_wp2;go_meet;exact⟨rfl,R⟩
    ·obtain⟨rfl,H⟩:=hcut
     have O:=LR.step K H;have HI6:=Oq J' H;have mU:=CE d H;clear uL I d K HL5 J' F6 dr H;have Q:=O.o.law.o.box.cell 0;have y1:=O.o.law.o.box.cell 1;have y2:=O.o.law.o.box.cell 2;go_upto_region 18 with(go_at_call 8;refine(Is O.o.law HS q HI6 f.o).mono ?_;rintro e w7 ⟨b7,n7,o7,m7,rfl, -,HA7,R⟩);obtain⟨FA8,Wu⟩:=Ko HA7;have A:=la (R.o.trans (Wu.o.mono R.o.size));have B:=LR.step O A;have VZ:=Oq HI6 A;have d:=CE mU A;have HA8:Hid (Qh _ _ x.r.2 _):=(B.o.row.o.ok _ HM.o).xE;clear HA7 R Wu A O HI6 mU Q y1 y2;generalize w7.heap.size=Y8 at*
     generalize w7.alloc _=l at*
     have HK5:Hid (∀b,Hid (Da l.heap.size l b)->(b.cell? (Ja G (k*5+1))=some (pa x.r.2.state)/\b.cell? (Ja G (k*5+2))=some (pa x.r.2.value)/\b.cell? (Ja G (k*5+3))=some (.slice x.ba x.r.2.xh.length x.bc)/\b.cell? (Ja G (k*5+4))=some (.slice x.oa x.r.2.over.length x.oc))/\(b.cell? (Ya Y8)=some (pa x.r.2.state)/\b.cell? (Ja Y8 1)=some (pa x.r.2.value)/\b.cell? (Ja Y8 2)=some (.slice b7 x.r.2.xh.length n7)/\b.cell? (Ja Y8 3)=some (.slice o7 x.r.2.over.length m7))/\Hid (Da l.heap.size l b)):=λb E=>
      have u:=FA8.o.box.below E.o
      ⟨(d.o b E).2,⟨u.cell 0,u.cell 1,u.cell 2,u.cell 3⟩,E⟩
     have I:Hid (Da l.heap.size l l.drew):=(za _ _).drew
     go_region_held3 (λb=>(b.cell? (Ja G (k*5+1))=some (pa x.r.2.state)/\b.cell? (Ja G (k*5+2))=some (pa x.r.2.value)/\b.cell? (Ja G (k*5+3))=some (.slice x.ba x.r.2.xh.length x.bc)/\b.cell? (Ja G (k*5+4))=some (.slice x.oa x.r.2.over.length x.oc))/\(b.cell? (Ya Y8)=some (pa x.r.2.state)/\b.cell? (Ja Y8 1)=some (pa x.r.2.value)/\b.cell? (Ja Y8 2)=some (.slice b7 x.r.2.xh.length n7)/\b.cell? (Ja Y8 3)=some (.slice o7 x.r.2.over.length m7))/\Hid (Da l.heap.size l b))
      (exact HK5.o _ La)
      ((go_at_call 10;refine(BE FA8.o.xE HA8 ((Lz _ _).2 rfl) La).mono ?_;rintro e w9 ⟨rfl,A⟩))
     go_split_ands;clear HK5 I FA8;go_upto_region 21 with(fail)
     go_loopw [19] (λj wq=>∃m:Nat,m<=k/\j=pa m/\Hid (Da l.heap.size l wq)) (λj _=>k-(intOf j).toNat)
     case atStart=>exact⟨0,Lb _,rfl,A⟩
     case round=>
      rename Ca=>wq
      obtain⟨m,hm,rfl,T⟩:=hrel;by_cases YK:m<k
      ·have GF:m<F.length:=by omega
       have HDM:=la (HDI.o m YK);have HOY:=la (B.o.row.o.ok _ (Oa GF)).xE;obtain⟨G',e,HCY⟩:=OC B.o.row GF;cases e
       generalize F[m]=y at*
       have HK6:Hid (∀b,Hid (Da l.heap.size l b)->(b.cell? (Ja G (k*5+1))=some (pa x.r.2.state)/\b.cell? (Ja G (k*5+2))=some (pa x.r.2.value)/\b.cell? (Ja G (k*5+3))=some (.slice x.ba x.r.2.xh.length x.bc)/\b.cell? (Ja G (k*5+4))=some (.slice x.oa x.r.2.over.length x.oc))/\(b.cell? (Ja G (m*5+1))=some (pa y.r.2.state)/\b.cell? (Ja G (m*5+2))=some (pa y.r.2.value)/\b.cell? (Ja G (m*5+3))=some (.slice y.ba y.r.2.xh.length y.bc)/\b.cell? (Ja G (m*5+4))=some (.slice y.oa y.r.2.over.length y.oc))/\Hid (Da l.heap.size l b)):=λb E=>⟨(d.o b E).2,(HCY.o b E).2,E⟩
       have I:Hid (Da l.heap.size l wq.drew):=T.o.drew;have JI:(0:Int)<=(m:Int):=Xb _;have EX:(m:Int)<(F.length:Int):=by omega
       go_upto_region 23 with(fail)
       go_region_held3 (λb=>(b.cell? (Ja G (k*5+1))=some (pa x.r.2.state)/\b.cell? (Ja G (k*5+2))=some (pa x.r.2.value)/\b.cell? (Ja G (k*5+3))=some (.slice x.ba x.r.2.xh.length x.bc)/\b.cell? (Ja G (k*5+4))=some (.slice x.oa x.r.2.over.length x.oc))/\(b.cell? (Ja G (m*5+1))=some (pa y.r.2.state)/\b.cell? (Ja G (m*5+2))=some (pa y.r.2.value)/\b.cell? (Ja G (m*5+3))=some (.slice y.ba y.r.2.xh.length y.bc)/\b.cell? (Ja G (m*5+4))=some (.slice y.oa y.r.2.over.length y.oc))/\Hid (Da l.heap.size l b))
        (exact HK6.o _ La)
        ((go_at_call 10;refine(BE HOY HA8 HDM.o La).mono ?_;rintro e eJ ⟨rfl,afp⟩))
       go_split_ands;go_wp2;go_roundw
       case rel=>exact⟨m+1,ja,by go_num,afp⟩
       case measure=>simp[intOf];omega
      ·clear HDI
       have HOX:=la (B.o.row.o.ok _ HM.o);by_cases ge:ea=0
       ·subst ge
        have V4:=HHO.o rfl;have HN:=la (HI.o.2 rfl);have x0:=(d.o wq T).1;have N:=JR HOX B.o.cse T;cases hh:Yt c x with
        | false=>{rw[hh]at N U;have HHD:=la N;clear N hh V4 HHO;go_wp2_with (go_at_call 21;refine HHD.o.mono ?_;rintro e ZP ⟨rfl,s⟩);go_roundw;(case rel=>exact⟨k+1,n,ja,by go_num,rfl,⟨ja,λ_=>by rw[U.o, <-HN.o];rfl⟩,LR.step B s,λ_=>⟨x,HX.o,Oq VZ s⟩⟩);case measure=>simp[intOf];omega}
        | true=>
         rw[hh]at N U;have HHD:=la N;have WW:=la (V4 hh);clear N hh V4 HHO
         have HK7:Hid (∀b,Hid (Da l.heap.size l b)->(b.cell? (Ja G (k*5+1))=some (pa x.r.2.state)/\b.cell? (Ja G (k*5+2))=some (pa x.r.2.value)/\b.cell? (Ja G (k*5+3))=some (.slice x.ba x.r.2.xh.length x.bc)/\b.cell? (Ja G (k*5+4))=some (.slice x.oa x.r.2.over.length x.oc))/\(b.cell? (Ya Y)=some (pa Z.state)/\b.cell? (Ja Y 1)=some (pa Z.value)/\b.cell? (Ja Y 2)=some (.slice ba Z.xh.length bc)/\b.cell? (Ja Y 3)=some (.slice oa Z.over.length oc))/\Hid (Da l.heap.size l b)):=λb E=>
          have u:=B.o.xE.o.box.below E.o
          ⟨(d.o b E).2,⟨u.cell 0,u.cell 1,u.cell 2,u.cell 3⟩,E⟩
         go_upto_region 27 with(go_at_call 21;refine HHD.o.mono ?_;rintro e ZP ⟨rfl,s⟩);have I:Hid (Da l.heap.size l ZP.drew):=s.o.drew
         go_region_held3 (λb=>(b.cell? (Ja G (k*5+1))=some (pa x.r.2.state)/\b.cell? (Ja G (k*5+2))=some (pa x.r.2.value)/\b.cell? (Ja G (k*5+3))=some (.slice x.ba x.r.2.xh.length x.bc)/\b.cell? (Ja G (k*5+4))=some (.slice x.oa x.r.2.over.length x.oc))/\(b.cell? (Ya Y)=some (pa Z.state)/\b.cell? (Ja Y 1)=some (pa Z.value)/\b.cell? (Ja Y 2)=some (.slice ba Z.xh.length bc)/\b.cell? (Ja Y 3)=some (.slice oa Z.over.length oc))/\Hid (Da l.heap.size l b))
          (exact HK7.o _ La)
          ((go_at_call 10;refine(BE HA8 B.o.xE.o.xE WW.o La).mono ?_;rintro e A4 ⟨rfl,K'⟩))
         go_split_ands;go_wp2;go_roundw
         case rel=>exact⟨k+1,n+1,ja,by go_num,by go_num,⟨ja,λ_=>by rw[U.o, <-HN.o];rfl⟩,LR.step B K',λ_=>⟨x,HX.o,Oq VZ K'⟩⟩
         case measure=>simp[intOf];omega
       {(have t0:(ea==0)=false:=by simpa using ge);go_wp2;go_roundw;(case rel=>exact⟨k+1,n,ja,by go_num,rfl,⟨ja,λe=>absurd e ge⟩,LR.step B T,λ_=>⟨x,HX.o,Oq VZ T⟩⟩);case measure=>simp[intOf];omega}
   {(have EO:k=F.length:=ja);have Q:=J.o.law.o.box.cell 0;have M:=CV J.o.law J.o.cse ((za _ _:Hid (Da wr.heap.size wr wr)));rw[HF.o.fits]at M;by_cases ge:ea=0;{subst ge;have h1:=HI.o.2 rfl;rw[EO,Ub,HF.o.one rfl]at h1;subst h1;have HFD:=la M;clear M HF HI HLA;go_wp2_with (go_at_call 22;refine HFD.o.mono ?_;rintro e ZP ⟨rfl,s⟩);go_ret;exact⟨by first|rfl|simp,J.o.law.o.low.trans (s.o.mono J.o.law.o.low.size)⟩};{rw[Za ge]at M;have HFD:=la M;(have t0:(ea==0)=false:=by simpa using ge);(have t1:(ea !=0)=true:=by simpa using ge);clear M HF HI HLA;go_wp2_with (go_at_call 22;refine HFD.o.mono ?_;rintro e ZP ⟨rfl,s⟩);go_ret;exact⟨by first|rfl|simp,J.o.law.o.low.trans (s.o.mono J.o.law.o.low.size)⟩}}
 {have hz:F=[]:=HY.o.nil g;subst hz;go_wp2;go_ret;exact⟨rfl,t.o.low⟩}
end Go.Proofs.YtdipkbobalnilaaGreatDoor
