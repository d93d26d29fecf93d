/- The walk of law16.JudgeAnswers. No conditions. -/
import Derived.Test.YtdipkbobalnilaaGreatDoorAl
import Derived.Test.YtdipkbobalnilaaGreatDoorJdBA
namespace Go.Proofs.YtdipkbobalnilaaGreatDoor
open Tryz
open Go.RowKit
variable{Z:Int}{D:List Fa}{C:List Int}{P:List Pv}
theorem fH{q:Na}{c:List Int}{a:Jo}(h:Df D P C q c=(a,Z))(b:Z≠0):a=Qi:=by
 unfold Df at h
 split at h
 {(split at h);{have:=@fW D P C (bB P q (wj D P c)) (by rw[h];exact b);rw[h]at this;exact this};{exact(congrArg Prod.fst h).symm}}
 {exact(congrArg Prod.fst h).symm}
theorem ER(w:Ca):Qh w w.heap.size Qi (.agg #[pa 0,pa 0,Ua,Ua]):=
 ⟨_,_,rfl,⟨none,0,rfl,wa _,Lb _,λh=>absurd rfl h⟩,⟨none,0,rfl,wa _,Lb _,λh=>absurd rfl h⟩⟩
set_option maxRecDepth 100000 in
set_option maxHeartbeats 10000000 in
theorem zu{v cv:Ea}(w:Ca)(hl:Gj w w.heap.size D P C v)(wU:∀p∈P,Wh p.value){q:Na}(_:q.size<=maxLen){c:List Int}(hc:IntsIn w w.heap.size c cv)(hT:Jh w.heap.size w):
  Db 4 #[v,.string q,cv] w λe d=>e=.returned (.bool true)/\Da w.heap.size w d:=by
 have QW:=hl;obtain⟨i0,z0,Kw,CO,yx,aeC,tm⟩:=Ln;obtain⟨u1,u2,u3,rfl,hd,hp,ht⟩:=hl;obtain⟨ad,cd,rfl,_⟩:=Sa.shape hd;obtain⟨ap,cp,rfl,p1,p2,_⟩:=Sa.shape hp;obtain⟨at_,ct,rfl,_⟩:=Sa.shape ht;have HC:=la hc;obtain⟨ac,cc,rfl,_⟩:=Sa.shape hc;have HV:=la wU;have r:=wN (cs:=#[.slice ad D.length cd,.slice ap P.length cp,.slice at_ C.length ct]) QW hT
 (have y0:=r.o.box.cell 0;have y1:=r.o.box.cell 1;have y2:=r.o.box.cell 2)
 clear QW hd hp ht hT hc wU;go_enter func4,ntmps4;go_upto_region 2 with(go_at_call 6;refine(FR r).mono ?_;rintro e w2 ⟨rfl,K⟩;(clear y0 y1 y2;have r:=K;clear K;(have y0:=r.o.box.cell 0;have y1:=r.o.box.cell 1;have y2:=r.o.box.cell 2)));go_upto_region 4 with(go_at_call 7;refine(yV r 8 Ba Ba).mono ?_;rintro e w2 ⟨⟨bb,rfl,hf⟩,K⟩;(clear y0 y1 y2;have r:=K;clear K;(have y0:=r.o.box.cell 0;have y1:=r.o.box.cell 1;have y2:=r.o.box.cell 2));cases bb)
 any_goals(go_ret;exact⟨rfl,r.o.low⟩)
 have HS:=zV Ba (hf trivial) HV.o;clear hf;have XC:=la (Sa.mono (Ad.mono _) r.o.low.size (IntsIn.below r.o.low HC.o));obtain⟨⟨f,ea⟩,hA⟩:∃X,Df D P C q c=X:=⟨_,rfl⟩;have HA:=la hA;clear hA HC;go_upto_region 5 with(go_at_call 8;refine(Is r HS q XC HA.o).mono ?_;rintro e w4 ⟨ba,bc,oa,oc,rfl,K,cS,Lk⟩);obtain⟨FA,U4⟩:=Ko cS;have HC3:=la (Sa.mono (Ad.mono _) (Lk.o.trans (U4.o.mono Lk.o.size)).size (IntsIn.below (Lk.o.trans (U4.o.mono Lk.o.size)) XC.o));have r:=la (K.o.step U4.o);clear K cS Lk U4 XC y0 y1 y2
 (have y0:=r.o.box.cell 0;have y1:=r.o.box.cell 1;have y2:=r.o.box.cell 2)
 have a0:=FA.o.box.cell 0;have a1:=FA.o.box.cell 1;have a2:=FA.o.box.cell 2;have a3:=FA.o.box.cell 3;generalize w4.heap.size=Y at*
 generalize w4.alloc _=W4 at*
 by_cases g:ea=0
 ·subst g
  obtain⟨L,hJ⟩:=AH HA.o;have HJ:=la hJ;go_upto_region 8 with(go_at_call 14;refine(AE r HS HC3 HJ.o.ask).mono ?_;rintro e E ⟨ia,ic,rfl,HI,dr⟩);have HL5:=la (r.o.step dr.o);have FA5:=Yo.step FA dr.o;have hn:=HJ.o.ids;rw[hn]at HI⊢
  have him:(L.map (qj P)).length<=maxLen:=by{obtain⟨_,_,E5,h1,h2,_⟩:=HI.o;(cases E5);exact ub h1 h2}
  rw[Va]at HI him⊢;clear hn hJ r FA HC3 dr HA y0 y1 y2 a0 a1 a2 a3;unfold maxLen at him;have X2:P.length<=1000:=HS.o.len;have zO:=@run_makeMap prog;go_upto_region 13 with(fail);clear zO;have HR0:Hid (Wy (E.alloc (.map #[] 0)) E.heap.size [] [] Ua Ua E.heap.size []):=⟨Ec _ _ _ _,Ec _ _ _ _,Wb.made E,wa _,λg e=>by cases e⟩;have iL:Hid (Da E.heap.size E (E.alloc (.map #[] 0))):=(za _ _).alloc (wa _) _
  go_loopw [12,13,15] (λbv ov i wr=>∃k:Nat,k<=L.length/\i=pa k/\Hid (Da E.heap.size E wr)/\Hid (Wy wr E.heap.size ((((L.take k).filter (Jz P q)).filter λj=>xi f.by_ (qj P j)).map (qj P)) ((((L.take k).filter (Jz P q)).filter λj=> !xi f.by_ (qj P j)).map (qj P)) bv ov E.heap.size (Qs ((((L.take k).filter (Jz P q)).filter λj=>xi f.by_ (qj P j)).map (vw P))))) (λ_ _ i _=>L.length-(intOf i).toNat)
  case atStart=>exact⟨0,Lb _,rfl,iL,HR0⟩
  case round=>
   obtain⟨k,hk,rfl,HB,KN⟩:=hrel;have U:=la (HL5.o.step HB.o);have y0:=U.o.box.cell 0;have y1:=U.o.box.cell 1;have y2:=U.o.box.cell 2;by_cases hlt:k<L.length
   ·have O:=Oa hlt
    obtain⟨hI,L2⟩:=HJ.o.at_ _ O;obtain⟨W,Z,rfl,hib,G⟩:=Sa.at HI.o k (by rw[Va];exact hlt);rw[Sd]at G;have C5:=la (Ta hlt);have HML:=la O;obtain⟨I,hIk⟩:∃I,L[k]=I:=⟨_,rfl⟩;rw[hIk]at hI L2 G C5 HML;clear hIk O;have L2:px (qj P I) P 0=(I:Int):=L2;have G:E.cell? (Ja W (Z+k*1))=some (.string (qj P I)):=G
    have HIC:Hid (∀d,Hid (Da wr.heap.size wr d)->((d.cell? (Ya w.heap.size)=some (.slice ad D.length cd)/\d.cell? (Ja w.heap.size 1)=some (.slice ap P.length cp)/\d.cell? (Ja w.heap.size 2)=some (.slice at_ C.length ct))/\d.cell? (Ja W (Z+k))=some (.string (qj P I)))/\Hid (Da wr.heap.size wr d)):=λd hb=>
     have z:=U.o.box.below hb.o
     ⟨⟨⟨z.cell 0,z.cell 1,z.cell 2⟩,by rw[oh]at G;exact((HB.o.trans (hb.o.mono HB.o.size)).cell (p:=Ja W (Z+k)) hib).trans G⟩,hb⟩
    have QZ:Hid (Da wr.heap.size wr wr.drew):=(za _ _).drew;have kF:(0:Int)<=(k:Int):=Xb _;have CZ:(k:Int)<(L.length:Int):=by omega
    have HFI:=la L2;have HIK:Hid (E.cell? (Ja W (Z+k))=some (.string (qj P I))):=by show _=_;rw[oh]at G;exact G
    clear L2 G y0 y1 y2;go_upto_region 15 with(fail)
    go_region_held3 (λd=>((d.cell? (Ya w.heap.size)=some (.slice ad D.length cd)/\d.cell? (Ja w.heap.size 1)=some (.slice ap P.length cp)/\d.cell? (Ja w.heap.size 2)=some (.slice at_ C.length ct))/\d.cell? (Ja W (Z+k))=some (.string (qj P I)))/\Hid (Da wr.heap.size wr d))
     (exact HIC.o _ La)
     ((go_at_call 15;refine(BE U HS HFI.o La).mono ?_;rintro e w7 ⟨rfl,J⟩))
    go_split_ands;have hI0:(0:Int)<=(I:Int):=Xb _;have hI1:decide ((I:Int)<0)=false:=by simp
    have hI2:(I:Int)<(P.length:Int):=by omega
    have T9:=la (U.o.step J.o);have R9:=Wy.below KN J;have l:=la (HB.o.trans (J.o.mono HB.o.size));obtain⟨_,_,_,BR,_,rK,_⟩:=T9.o.law;simp only[Value.agg.injEq,ep,List.cons.injEq,and_true]at BR;obtain⟨rfl,rfl,rfl⟩:=BR;obtain⟨pb,po,rfl,hpb,ak,ck,ae,ce,hr,_⟩:=Sa.at rK I hI;have KO:=la hr;have CR:Hid (qj P I=P[I].id/\Jz P q I=Ek q P[I]/\vw P I=P[I].value):=⟨Mk hI,by unfold Jz;rw[Xa hI],by unfold vw;rw[Xa hI]⟩;generalize hpp:P[I]=p at*
    have HPP:=la hpp;clear hpp rK hr HIC QZ U KN J
    go_upto_region 19 with(first
     | ((with_reducible show wpList _ _ _ (⟨_,Op.load 38 (.tmp 81),_,_,_,_⟩::_) _ _);refine Lc rfl (.tmp 81) rfl rfl p ak ck ae ce KO.o Tryz.underlying38 rfl Pv.Dg ?_)
     | ((with_reducible show wpList _ _ _ (⟨_,Op.store 38 (.tmp 17) (.tmp 82),_,_,_,_⟩::_) _ _);refine Vc rfl (.tmp 17) (.tmp 82) rfl p ak ck ae ce rfl rfl ?Sj Pv.Dg ?_;(case Sj=>rfl);intro W1 M Un Pu Mu;have aeo:=Pu 2 _ rfl;have aep:=Pu 3 _ rfl;have apx:=Pu 4 _ rfl;have fP:=la Pu;clear Pu))
    have a:=la (l.o.trans (M.mono l.o.size));have ET:=Wy.below R9 (la M);have vK:=la (T9.o.step M);cases Q:Ek q p with
    | false=>{have HNX:Hid ((L.take (k+1)).filter (Jz P q)=(L.take k).filter (Jz P q)):=by{show _=_;rw[C5.o,yd,Jc,CR.o.2.1,Q];simp};have HG:Hid (Wy W1 E.heap.size ((((L.take (k+1)).filter (Jz P q)).filter λj=>xi f.by_ (qj P j)).map (qj P)) ((((L.take (k+1)).filter (Jz P q)).filter λj=> !xi f.by_ (qj P j)).map (qj P)) u12 u13 E.heap.size (Qs ((((L.take (k+1)).filter (Jz P q)).filter λj=>xi f.by_ (qj P j)).map (vw P)))):=by{rw[HNX.o];exact ET};by_cases EI:p.kind=2;{(have t1:(p.kind !=2)=false:=by simp[EI]);have t2:(p.name.toList==q.toList)=false:=by{have Q:=Q;unfold Ek Lh at Q;rw[Hb EI,tf]at Q;simpa using Q};go_wp2;go_roundw;(case rel=>exact⟨k+1,ja,by go_num,a,HG⟩);case measure=>simp[intOf];omega};{(have t1:(p.kind !=2)=true:=by simpa using EI);go_wp2;go_roundw;(case rel=>exact⟨k+1,ja,by go_num,a,HG⟩);case measure=>simp[intOf];omega}}
    | true=>
     have R:=Q;unfold Ek Lh at R;simp only[Ib,decide_eq_true_eq]at R;have t1:(p.kind !=2)=false:=by simp[R.1]
     have t2:(p.name.toList==q.toList)=true:=R.2;clear R;have HRQ:=la Q;go_upto_region 23 with(fail)
     go_loopw [18,19,20] (λbt st j S=>∃(m:Nat) (b s:Bool),m<=L.length/\j=pa m/\bt=.bool b/\st=.bool s/\Hid (b=(L.take m).any (aJ D P C q I))/\Hid (s=(L.take m).any (mQ D P C q f.by_ I))/\Hid (Da W1.heap.size W1 S)) (λ_ _ j _=>L.length-(intOf j).toNat)
     case atStart=>exact⟨0,_,_,Lb _,rfl,rfl,rfl,rfl,rfl,za _ _⟩
     case round=>
      rename Ca=>S
      obtain⟨m,b,s,hm,rfl,rfl,rfl,AV,HBs,F⟩:=hrel;have T:=la (vK.o.step F.o);have y0:=T.o.box.cell 0;have y1:=T.o.box.cell 1;have y2:=T.o.box.cell 2;by_cases T7:m<L.length
      ·have O:=Oa T7
       obtain⟨hN,L3⟩:=HJ.o.at_ _ O;obtain⟨BV,io2,FZ,apR,y⟩:=Sa.at HI.o m (by rw[Va];exact T7);cases FZ
       rw[Sd]at y;have HTM:=la (Ta T7);obtain⟨N,hNm⟩:∃N,L[m]=N:=⟨_,rfl⟩;rw[hNm]at hN L3 y HTM O;have HNL:=la O;clear hNm O;have L3:px (qj P N) P 0=(N:Int):=L3;have y:E.cell? (Ja W (Z+m*1))=some (.string (qj P N)):=y
       have xV:Hid (∀d,Hid (Da S.heap.size S d)->((d.cell? (Ya w.heap.size)=some (.slice ad D.length cd)/\d.cell? (Ja w.heap.size 1)=some (.slice (fe pb po) P.length cp)/\d.cell? (Ja w.heap.size 2)=some (.slice at_ C.length ct))/\d.cell? (Ja W (Z+m))=some (.string (qj P N)))/\Hid (Da S.heap.size S d)):=λd hb=>
        have z:=T.o.box.below hb.o
        ⟨⟨⟨z.cell 0,z.cell 1,z.cell 2⟩,by rw[oh]at y;exact(((a.o.trans (F.o.mono a.o.size)).trans (hb.o.mono (ub a.o.size F.o.size))).cell (p:=Ja W (Z+m)) hib).trans y⟩,hb⟩
       have QZ:Hid (Da S.heap.size S S.drew):=(za _ _).drew;have JI:(0:Int)<=(m:Int):=Xb _;have EX:(m:Int)<(L.length:Int):=by omega
       have HFN:=la L3;clear L3 y y0 y1 y2;go_upto_region 25 with(fail)
       go_region_held3 (λd=>((d.cell? (Ya w.heap.size)=some (.slice ad D.length cd)/\d.cell? (Ja w.heap.size 1)=some (.slice (fe pb po) P.length cp)/\d.cell? (Ja w.heap.size 2)=some (.slice at_ C.length ct))/\d.cell? (Ja W (Z+m))=some (.string (qj P N)))/\Hid (Da S.heap.size S d))
        (exact xV.o _ La)
        ((go_at_call 15;refine(BE T HS HFN.o La).mono ?_;rintro e w7 ⟨rfl,J⟩))
       go_split_ands;have b7:=la (F.o.trans (J.o.mono F.o.size));have R6:=la (T.o.step J.o);obtain⟨_,_,_,BR,_,rK,_⟩:=R6.o.law;simp only[Value.agg.injEq,ep,List.cons.injEq,and_true]at BR;obtain⟨rfl,rfl,rfl⟩:=BR;obtain⟨pb2,po2,he,_,ak2,ck2,ae2,ce2,TG,_⟩:=Sa.at rK N hN;cases he
       have p2:=TG 2 _ rfl;have p3:=TG 3 _ rfl;have HPN:Hid (Jz P q N=Ek q P[N]):=by show _=_;unfold Jz;rw[Xa hN]
       generalize P[N]=pn at*
       have hN0:(0:Int)<=(N:Int):=Xb _;have hN1:decide ((N:Int)<0)=false:=by simp
       have hN2:(N:Int)<(P.length:Int):=by omega
       have HAM:=la (oJ HTM.o);clear rK TG xV QZ HFN HTM T;by_cases hc:Ek q pn=true/\N≠I
       ·obtain⟨fK,yN⟩:=hc
        have H':=fK;unfold Ek Lh at H';simp only[Ib,decide_eq_true_eq]at H';have v1:(pn.kind !=2)=false:=by simp[H'.1]
        have v2:(pn.name.toList==q.toList)=true:=H'.2;have v3:decide (N=I)=false:=by simp[yN]
        have v4:((N:Int)==(I:Int))=false:=by simp;omega
        have hrn:Jz P q N=true:=by rw[HPN.o];exact fK
        have H:Jz P q I=true:=by rw[CR.o.2.1];exact HRQ.o
        obtain⟨x,hx⟩:∃x,TK D P C (N:Int) (I:Int)=(x,0):=⟨_,Prod.ext rfl (HJ.o.err N HNL.o I HML.o hrn H yN)⟩;have HXB:=la hx;have D_:Hid (aJ D P C q I N=x):=by show _=_;unfold aJ;rw[hrn,hx];simp[yN]
        have DA:Hid (mQ D P C q f.by_ I N=(x&& xi f.by_ (qj P N))):=by show _=_;unfold mQ;rw[D_.o]
        clear fK yN H' hrn H hx;go_upto_region 30 with(go_at_call 16;refine(lH R6 HS N I HXB.o (za _ _)).mono ?_;rintro e w8 ⟨rfl,l⟩);have HBF:=la (b7.o.trans (l.o.mono b7.o.size));have FA8:=Yo.step FA5 (a.o.trans (HBF.o.mono a.o.size))
        have HIN:Hid (∀d,Hid (Da w8.heap.size w8 d)->(d.cell? (Ja Y 2)=some (.slice ba f.by_.length bc)/\d.cell? (Ja W (Z+m))=some (.string (qj P N)))/\Hid (Da w8.heap.size w8 d)):=λd hb=>⟨⟨(FA8.o.box.below hb.o).cell 2,((l.o.trans (hb.o.mono l.o.size)).cell (p:=Ja W (Z+m)) (by have:=a.o.size;have:=b7.o.size;show W<_;omega)).trans La⟩,hb⟩
        have QZ:Hid (Da w8.heap.size w8 w8.drew):=(za _ _).drew;obtain⟨_,_,J8,AO,_⟩:=FA8.o.xE;simp only[Value.agg.injEq,ep,List.cons.injEq,and_true,true_and]at J8;obtain⟨rfl,rfl⟩:=J8;have ZO:=la AO;clear AO p2 p3 b7 J;cases b<;>cases s<;>cases x
        all_goals
         go_wp2
         first
          | go_quiet(fail)
          | go_region_held3 (λd=>(d.cell? (Ja Y 2)=some (.slice ba f.by_.length bc)/\d.cell? (Ja W (Z+m))=some (.string (qj P N)))/\Hid (Da w8.heap.size w8 d))
            (exact HIN.o _ La)
            ((go_at_call 12;refine(zR ZO (qj P N) La).mono ?_;rintro e w9 ⟨rfl,rfl⟩))
         try go_split_ands
         go_wp2;go_roundw
         case rel=>exact⟨m+1,_,_,ja,by go_num,rfl,rfl,by rw[HAM.o, <-AV.o,D_.o];rfl,by rw[HAM.o, <-HBs.o,DA.o];rfl,HBF.o.trans (Below.mono (by first|exact World.Md _ _ _|exact Hid.o La) HBF.o.size)⟩
         case measure=>simp[intOf];omega
       ·obtain⟨z1,z2⟩:=PZ (d:=D) (ts:=C) (by_:=f.by_) (HPN.o▸hc)
        have HZ:=la z1;have A0:=la z2;have hd:=DK hc;clear z1 z2 hc;rcases hd with v1|⟨v1,v2⟩|⟨v1,v2,v3,v4⟩
        all_goals
         go_wp2;go_roundw
         case rel=>exact⟨m+1,_,_,ja,by go_num,rfl,rfl,by rw[HAM.o,HZ.o,Bool.or_false];exact AV,by rw[HAM.o,A0.o,Bool.or_false];exact HBs,b7⟩
         case measure=>simp[intOf];omega
      ·obtain rfl:m=L.length:=by omega
       have H:Jz P q I=true:=by rw[CR.o.2.1];exact HRQ.o
       obtain⟨PO,hj2⟩:=bR HJ.o HML.o H;have M:b= !xi f.by_ (qj P I):=by rw[AV.o,Ub];exact PO
       have Sj:s= !xi f.by_ (qj P I):=by rw[HBs.o,Ub];exact hj2
       have HRE:=Wy.below ET F;have HBG:=la (a.o.trans (F.o.mono a.o.size));have xk:S.cell? (Ja W (Z+k))=some (.string (qj P I)):=(HBG.o.cell (p:=Ja W (Z+k)) hib).trans HIK.o;have hLl:=yR HJ.o;have dU:=ve (λj=>xi f.by_ (qj P j)) ((L.take k).filter (Jz P q));have IL:=ve (λj=> !xi f.by_ (qj P j)) ((L.take k).filter (Jz P q));have hl3:=ve (Jz P q) (L.take k);rw[de]at hl3;have j9:=Wy.below HRE (la ((za S.heap.size S).alloc (wa _) (.cells #[.string (qj P I)] 9)));have P8:=la (ZV S 9 [.string (qj P I)]);have F1:=la (pJ C5.o H λj=>xi f.by_ (qj P j));have F2:=la (pJ C5.o H λj=> !xi f.by_ (qj P j));have gM:=HBG.o.size;have SZ:=la (HBG.o.alloc gM (.cells #[.string (qj P I)] 9));clear PO hj2 y0 y1 y2;cases A:xi f.by_ (qj P I)with
       | false=>{rw[A]at M Sj;obtain rfl:b=true:=M;obtain rfl:s=true:=Sj;have E1:Hid (((L.take (k+1)).filter (Jz P q)).filter (λj=>xi f.by_ (qj P j))=((L.take k).filter (Jz P q)).filter λj=>xi f.by_ (qj P j)):=F1.o.trans (by simp[A]);have E2:Hid (((L.take (k+1)).filter (Jz P q)).filter (λj=> !xi f.by_ (qj P j))=((L.take k).filter (Jz P q)).filter (λj=> !xi f.by_ (qj P j))++[I]):=F2.o.trans (by simp[A]);clear A F1 F2 H;go_wp2_with (at_builtin;go_loud (refine wpList_append_own_at _ rfl (.tmp 160) (.tmp 165) 33 rfl E.heap.size 9 i0 z0 1 16 Tryz.underlying33 Kw yx CO tm aeC Ba u13 _ _ rfl j9.o.r2 (Ya S.heap.size) 1 1 [.string (qj P I)] rfl rfl P8.o (by intro u hu;simp at hu;subst hu;rfl) (by unfold maxLen;rw[Va];omega) (by rw[Va];omega) (by simp;omega) ?_;intro v9 w9 V h WL aW));have rS:=Wy.acT j9 V h aW;have J9:=la (SZ.o.grown h (by simp;omega) λg e=>(j9.o.r2.lt g e).1);go_roundw;(case rel=>exact⟨k+1,ja,by go_num,J9,by rw[E1.o,E2.o,Pb];exact rS⟩);case measure=>simp[intOf];omega}
       | true=>
        rw[A]at M Sj;obtain rfl:b=false:=M;obtain rfl:s=false:=Sj;have E1:Hid (((L.take (k+1)).filter (Jz P q)).filter (λj=>xi f.by_ (qj P j))=((L.take k).filter (Jz P q)).filter (λj=>xi f.by_ (qj P j))++[I]):=F1.o.trans (by simp[A]);have E2:Hid (((L.take (k+1)).filter (Jz P q)).filter (λj=> !xi f.by_ (qj P j))=((L.take k).filter (Jz P q)).filter λj=> !xi f.by_ (qj P j)):=F2.o.trans (by simp[A]);have L1:=la (ML HJ.o HML.o H A);have oE:=ej (ly.1 A);have apW:=Hb oE;have apX:decide ((0:Int)<(f.by_.length:Int))=true:=by simpa using oE
        clear A F1 F2 H;go_upto_region 37 with(at_builtin;go_loud (refine wpList_append_own_at _ rfl (.tmp 167) (.tmp 172) 33 rfl E.heap.size 9 i0 z0 1 16 Tryz.underlying33 Kw yx CO tm aeC Ba u12 _ _ rfl j9.o.r1 (Ya S.heap.size) 1 1 [.string (qj P I)] rfl rfl P8.o (by intro u hu;simp at hu;subst hu;rfl) (by unfold maxLen;rw[Va];omega) (by rw[Va];omega) (by simp;omega) ?_;intro v9 w9 V h WL aW));have rS:=Wy.acS j9 V h aW;have J9:=la (SZ.o.grown h (by simp;omega) λg e=>(j9.o.r1.lt g e).1);have xv:w9.cell? (Ja w7.heap.size 4)=some (pa p.value):=h.cell (((F.o.alloc F.o.size (.cells #[.string (qj P I)] 9)).cell (p:=Ja w7.heap.size 4) (by show w7.heap.size<_;omega)).trans apx) λe=>Nat.lt_irrefl _ (R9.o.r1.lt _ e.symm).2
        obtain⟨eJ,hrun,aff,GR⟩:=run_store vj.key Tryz.underlying61 rS.o.map p.value true;have Y8:=Wy.put rS aff GR;have HBJ:=la (J9.o.trans (GR.below (B:=E.heap.size) (wa _)));have FAJ:=Yo.step FA5 HBJ.o;have a0:=FAJ.o.box.cell 0;have a1:=FAJ.o.box.cell 1;have a2:=FAJ.o.box.cell 2;have xw:eJ.cell? (Ja w7.heap.size 4)=some (pa p.value):=(World.cell?_of_block (GR.block _ (by have:=R9.o.map.lt;show w7.heap.size≠_;omega))).trans xv
        have hd:(f.state==1)=false\/((f.state==1)=true/\(p.value !=f.value)=false):=by{by_cases h1:f.state=1;{have h2:=L1.o h1;rw[CR.o.2.2]at h2;exact .inr ⟨by simp[h1],by simp[h2]⟩};{exact .inl (by simp[h1])}}
        rcases hd with s1|⟨s1,s2⟩
        all_goals
         go_wp2;go_roundw
         case rel=>exact⟨k+1,ja,by go_num,HBJ,by rw[E1.o,E2.o,Pb,Pb];unfold Qs;rw[Wg];rw[<-CR.o.2.2]at Y8;exact Y8⟩
         case measure=>simp[intOf];omega
   ·obtain rfl:k=L.length:=by omega
    rw[Ub]at KN;have t:=Yo.step FA5 HB.o;have a0:=t.o.box.cell 0;have a1:=t.o.box.cell 1;have a2:=t.o.box.cell 2;have a3:=t.o.box.cell 3;obtain⟨_,_,J8,AO,hov⟩:=t.o.xE;simp only[Value.agg.injEq,ep,List.cons.injEq,and_true,true_and]at J8;obtain⟨rfl,rfl⟩:=J8;have ZO:=la AO;have L4:=la hov;have RB:=la (yl KN.o.r1 rfl);have RO:=la (yl KN.o.r2 rfl);have SB:=(Uv _ _).2 HJ.o.by_.symm;have SO:=(Uv _ _).2 HJ.o.over.symm;obtain⟨n,hn⟩:∃n,(Qs (((L.filter (Jz P q)).filter λj=>xi f.by_ (qj P j)).map (vw P))).length=n:=⟨_,rfl⟩;have T7:=λty=>run_len_map KN.o.map Tryz.underlying61 ty
    rw[hn]at T7;have hd:=qR HJ.o hn;have vK:=la (HL5.o.step HB.o);clear AO hov hn;rcases hd with⟨h1,h2,h3⟩|⟨h1,h2⟩|⟨h1,h2,h3⟩
    ·subst h1
     have s1:(f.state==0)=true:=by simp[h2]
     have s2:(f.value==0)=true:=by simp[h3]
     go_wp2_with (first
      | (go_at_call 17;refine(xq RO L4 SO l).mono ?_;rintro e w9 ⟨rfl,a⟩;have FC:=Yo.step t a.o;have c0:=FC.o.box.cell 0;have c1:=FC.o.box.cell 1)
      | (go_at_call 17;refine(xq RB ZO SB (za _ _)).mono ?_;rintro e w8 ⟨rfl,l⟩;have FB:=Yo.step t l.o;have b3:=FB.o.box.cell 3))
     go_ret;exact⟨rfl,(vK.o.step a.o).low⟩
    ·subst h1
     have s1:(f.state==1)=true:=by simp[h2]
     go_wp2_with (first
      | (go_at_call 17;refine(xq RO L4 SO l).mono ?_;rintro e w9 ⟨rfl,a⟩;have FC:=Yo.step t a.o;have c0:=FC.o.box.cell 0;have c1:=FC.o.box.cell 1)
      | (go_at_call 17;refine(xq RB ZO SB (za _ _)).mono ?_;rintro e w8 ⟨rfl,l⟩;have FB:=Yo.step t l.o;have b3:=FB.o.box.cell 3))
     go_ret;exact⟨rfl,(vK.o.step a.o).low⟩
    ·have s1:(f.state==2)=true:=by simp[h2]
     have s2:(f.value==0)=true:=by simp[h3]
     have s3:((n:Int)==1)=false:=by simp;omega
     have s4:decide ((1:Int)<(n:Int))=true:=by simp;omega
     go_wp2_with (first
      | (go_at_call 17;refine(xq RO L4 SO l).mono ?_;rintro e w9 ⟨rfl,a⟩;have FC:=Yo.step t a.o;have c0:=FC.o.box.cell 0;have c1:=FC.o.box.cell 1)
      | (go_at_call 17;refine(xq RB ZO SB (za _ _)).mono ?_;rintro e w8 ⟨rfl,l⟩;have FB:=Yo.step t l.o;have b3:=FB.o.box.cell 3))
     go_ret;exact⟨rfl,(vK.o.step a.o).low⟩
 {(have t0:(ea !=0)=true:=by simpa using g);have hno:=fH HA.o g;subst hno;have HN:=la (ER W4);go_wp2_with (go_at_call 10;refine(MC _ _ _ _ _ FA.o.xE HN.o).mono ?_;rintro e E ⟨rfl,dr⟩);go_ret;exact⟨by rw[(Lz _ _).2 rfl];rfl,r.o.low.trans (dr.mono r.o.low.size)⟩}
end Go.Proofs.YtdipkbobalnilaaGreatDoor
