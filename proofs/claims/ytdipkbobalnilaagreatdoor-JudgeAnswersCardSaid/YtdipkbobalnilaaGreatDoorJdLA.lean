/- The walk of judge.key: the text that only equal answers have. Bounds on the strings. -/
import Derived.Test.YtdipkbobalnilaaGreatDoorApAA
import Derived.Shelf.Spec.SlicesGrow
import Derived.Test.YtdipkbobalnilaaGreatDoorJdJA
set_option maxRecDepth 100000
set_option maxHeartbeats 4000000
namespace Go.Proofs.YtdipkbobalnilaaGreatDoor
open Go.RowKit
def Df(d:List Fa)(ps:List Pv)(ts:List Int)(q:ByteArray)(c:List Int):Jo×Int:=
 if(Je d ps ts []).2=0 then(if Pm d ps c=0 then Rh d ps ts (bB ps q (wj d ps c))else(Qi,Pm d ps c))else(Qi,1)
theorem wH{w:World}{B:Nat}{d:List Fa}{ps:List Pv}{ts:List Int}{v:Value}(h:Gj w B d ps ts v):ur w B d ps v:=by
 obtain⟨u1,u2,u3,rfl,h1,h2,h3⟩:=h;obtain⟨a,c,rfl,_⟩:=Sa.shape h3;exact⟨u1,u2,a,_,c,rfl,h1,h2⟩
theorem yE(d:List Fa)(ps:List Pv)(ts:List Int)(q:ByteArray)(c:List Int)(v cv:Value)(w:World)(hn:ps.length<=1000)(hl:Gj w w.heap.size d ps ts v)(hc:IntsIn w w.heap.size c cv)(hex:∀p∈ps,p.except.length<=40)(hsz:∀p∈ps,p.cond.size<=1000000)(hT:Jh w.heap.size w):
  Calls Tryz.prog 8 #[v,.string q,cv] w λe w'=>∃x,e=.returned (.tuple #[x,.int .i64 (Df d ps ts q c).2])/\Below w.heap.size w w'/\Qh w' w'.heap.size (Df d ps ts q c).1 x:=by
 have HL:=Lib.hid hl;obtain⟨u1,u2,u3,rfl,hd,hp,ht⟩:=hl;obtain⟨ad,cd,rfl,_⟩:=Sa.shape hd;obtain⟨ap,cp,rfl,_⟩:=Sa.shape hp;obtain⟨at_,ct,rfl,_⟩:=Sa.shape ht;obtain⟨ac,cc,rfl,_⟩:=Sa.shape hc;obtain⟨i0,z0,Kw,CO,yx,aeC,tm⟩:=Ln;have jB:Below _ w (((w.alloc (.cells #[.slice ad d.length cd,.slice ap ps.length cp,.slice at_ ts.length ct] 28)).alloc (.cells #[.string q] 9)).alloc (.cells #[.int .i64 0,.int .i64 0,.slice none 0 0,.slice none 0 0] 42)):=(((Below.refl _ _).alloc (Nat.le_refl _) _).alloc (by simp) _).alloc (by simp;omega) _;have K0:qb (((w.alloc _).alloc (.cells #[.string q] 9)).alloc (.cells #[.int .i64 0,.int .i64 0,.slice none 0 0,.slice none 0 0] 42)) _ 28 _:=((qb.new w 28 #[.slice ad d.length cd,.slice ap ps.length cp,.slice at_ ts.length ct]).alloc _).alloc _
 have K1:qb (((w.alloc (.cells #[.slice ad d.length cd,.slice ap ps.length cp,.slice at_ ts.length ct] 28)).alloc (.cells #[.string q] 9)).alloc (.cells #[.int .i64 0,.int .i64 0,.slice none 0 0,.slice none 0 0] 42)) (w.heap.size+1) 9 #[.string q]:=by{have q:=(qb.new (w.alloc (.cells #[.slice ad d.length cd,.slice ap ps.length cp,.slice at_ ts.length ct] 28)) 9 #[.string q]).alloc (.cells #[.int .i64 0,.int .i64 0,.slice none 0 0,.slice none 0 0] 42);simpa only[World.size_alloc]using q}
 have K2:qb (((w.alloc (.cells #[.slice ad d.length cd,.slice ap ps.length cp,.slice at_ ts.length ct] 28)).alloc (.cells #[.string q] 9)).alloc (.cells #[.int .i64 0,.int .i64 0,.slice none 0 0,.slice none 0 0] 42)) (w.heap.size+1+1) 42 #[.int .i64 0,.int .i64 0,.slice none 0 0,.slice none 0 0]:=by{have q:=qb.new ((w.alloc (.cells #[.slice ad d.length cd,.slice ap ps.length cp,.slice at_ ts.length ct] 28)).alloc (.cells #[.string q] 9)) 42 #[.int .i64 0,.int .i64 0,.slice none 0 0,.slice none 0 0];simpa only[World.size_alloc]using q}
 obtain⟨W,hW⟩:∃W,(((w.alloc (.cells #[.slice ad d.length cd,.slice ap ps.length cp,.slice at_ ts.length ct] 28)).alloc (.cells #[.string q] 9)).alloc (.cells #[.int .i64 0,.int .i64 0,.slice none 0 0,.slice none 0 0] 42))=W:=⟨_,rfl⟩;rw[hW]at jB K0 K1 K2;have mY:=jB.size;have hW3:=K2.lt;have HW:=Lib.hid hW;have Jq:=Lib.hid jB;have Bt:=Lib.hid K0;have Zu:=Lib.hid K1;have OT:=Lib.hid K2;have E0:Hid (∀w',Below _ W w'->Gj w' _ d ps ts _):=λw' h=>(HL.out.below (jB.trans (h.mono mY))).mono (Nat.le_trans mY h.size)
 have HTW:Hid (∀w',Below _ W w'->Jh _ w'):=λw' h w'' h'=>hT w'' (jB.trans ((h.trans (h'.mono h.size)).mono mY))
 have HCW:Hid (∀w',Below _ W w'->IntsIn w' _ c _):=λw' h=>Sa.mono (Ad.mono _) (Nat.le_trans mY h.size) (Sa.below (Ad.kept _) (jB.trans (h.mono mY)) hc)
 have lS:=Lib.hid (ju d ps ts _ W hn (E0.out W (Below.refl _ _)) hsz (HTW.out W (Below.refl _ _)));have IU:=Lib.hid (λw' h=>dP d ps c _ _ w' _ hn (Nat.le_refl _) (wH (E0.out w' h)) hex hsz (HCW.out w' h));obtain⟨AA,F0⟩:∃AA,Df d ps ts q c=AA:=⟨_,rfl⟩;rw[F0];have HAA:=Lib.hid F0;have x0:=K0.cell 0;have x1:=K0.cell 1;have x2:=K0.cell 2;obtain⟨⟨y0,y1,y2,y3⟩,Q9,z1,z2,z3⟩:=K2.four;clear hd hp ht hc hW jB K0 K1 K2 F0;by_cases OI:(Je d ps ts []).2=0
 ·have hb:((Je d ps ts []).2==0)=true:=by simp[OI]
  rw[hb]at lS;have hA2:AA=if Pm d ps c=0 then Rh d ps ts (bB ps q (wj d ps c))else(Qi,Pm d ps c):=by rw[<-HAA.out];unfold Df;rw[if_pos OI]
  have TV:=Lib.hid hA2;obtain⟨er,YV⟩:∃er,Pm d ps c=er:=⟨_,rfl⟩;rw[YV]at IU TV;obtain⟨KE,G0⟩:∃KE,(if er=0 then wj d ps c else[])=KE:=⟨_,rfl⟩;rw[G0]at IU;have NA:=Lib.hid G0;clear G0;clear hb OI hA2 HAA YV;go_enter Tryz.func8,Tryz.ntmps8;go_upto_region 1 with(fail);rw[HW.out];go_upto_region 3 with(go_at_call 26;refine lS.out.mono ?_;rintro e w4 ⟨rfl,jy⟩;have Lk:=Lib.hid jy;clear x0 x1 x2 y0 y1 y2 y3 Q9 z1 z2 z3;have x0:=(Bt.out.below jy).cell 0;have x1:=(Bt.out.below jy).cell 1;have x2:=(Bt.out.below jy).cell 2;clear jy);go_upto_region 4 with(go_at_call 14;refine(IU.out w4 Lk.out).mono ?_;rintro e w5 ⟨u,rfl,nF,LD⟩;obtain⟨ua,uc,rfl,_⟩:=Sa.shape LD;have HS5:=Lib.hid LD;have dr:=Lib.hid (Lk.out.trans (nF.mono Lk.out.size));clear nF LD);have hQ:=qb.new w5 33 #[.slice ua KE.length uc];have LD:=dr.out.size;have Mw:Hid (Below _ W (w5.alloc (.cells #[.slice ua KE.length uc] 33))):=dr.out.alloc LD _;have hQW:w5.heap.size<(w5.alloc (.cells #[.slice ua KE.length uc] 33)).heap.size:=by simp
  have b9:Hid (Sc _ _ KE _):=
   Sa.mono (Ad.mono _) (Nat.le_of_lt hQW) (Sa.below (Ad.kept _) ((Below.refl _ w5).alloc (Nat.le_refl _) (.cells #[.slice ua KE.length uc] 33)) HS5.out)
  obtain⟨WA,hWA⟩:∃WA,w5.alloc (.cells #[.slice ua KE.length uc] 33)=WA:=⟨_,rfl⟩;rw[hWA]at hQ Mw hQW b9⊢;generalize hQQ:w5.heap.size=Q at*
  have HQ:=Lib.hid hQ;have aX:=Mw.out.size;clear hWA hQQ hQ x0 x1 x2;by_cases he:er=0
  ·have e1:(er !=0)=false:=by simp[he]
   have hA:=TV.out;rw[if_pos he]at hA;have hI:KE=wj d ps c:=by rw[<-NA.out,if_pos he]
   rw[<-hI]at hA;have HA:=Lib.hid hA;clear hA TV hI NA IU lS;subst he;have HKA:=Lib.hid (Bt.out.below Mw.out);have HQA:=Lib.hid (Zu.out.below Mw.out);have x1:=HKA.out.cell 1
   have HKV:Hid (Calls Tryz.prog 27 #[.slice ap ps.length cp,.func (.func 28) #[] #[.pointer (some ⟨w.heap.size+1,0,none⟩),.pointer (some ⟨Q,0,none⟩)]] WA λe w'=>∃(ra:Option Addr) (rc:Nat),e=.returned (.slice ra (ps.filter λp=>Ek q p&& xi KE p.id).length rc)/\Hid (Below WA.heap.size WA w')/\Hid (Sa jm 23 w' w'.heap.size (ps.filter λp=>Ek q p&& xi KE p.id) (.slice ra (ps.filter λp=>Ek q p&& xi KE p.id).length rc))):=by{obtain⟨v1,v2,v3,e,h1,h2,h3⟩:=E0.out WA Mw.out;(cases e);refine(AK ps _ _ _ (λp=>Ek q p&& xi KE p.id) WA _ (by omega) hn (enters_of Tryz.func28 (by kernel_rfl) rfl) h2 λW' x hb _=>?_).mono ?_;{exact xH x.p _ _ _ _ q KE _ Q _ W' ((HQA.out.below hb).cell 0) (by have:=hb.size;omega) ((HQ.out.below hb).cell 0) (by have:=hb.size;omega) (Sa.mono (Ad.mono _) hb.size (Sa.below (Ad.kept _) hb b9.out))};{rintro e w' ⟨r,rfl,h3,h4⟩;obtain⟨ra,rc,rfl,_⟩:=Sa.shape h4;exact⟨ra,rc,rfl,h3,h4⟩}}
   have UY:=Lib.hid (show((ps.filter λp=>Ek q p&& xi KE p.id).length<=1000)from Nat.le_trans (List.length_filter_le _ _) hn);have hOW:bB ps q KE=(ps.filter λp=>Ek q p&& xi KE _).map _:=rfl;have HOW:=Lib.hid hOW;generalize(ps.filter λp=>Ek q p&& xi KE _)=rs at*
   clear hOW;go_upto_region 7 with(go_at_call 27;refine HKV.out.mono ?_;rintro e w7 ⟨ra,rc,rfl,TP,R9⟩);have hs7:=TP.out.size;clear x1 HKV;go_upto_region 9 with(fail)
   go_loopw [11,34] (λov iv wr=>∃(k:Nat) (out:List ByteArray),k<=rs.length/\iv=.int .i64 k/\Hid (out=(rs.take k).map (·.id))/\Hid (wr.ownsRow w7.heap.size 9 1 ov out.length (out.map Value.string))/\Hid (Below w7.heap.size w7 wr)) (λ_ iv _=>rs.length-(intOf iv).toNat)
   case atStart=>exact⟨0,[],(by omega),rfl,rfl,World.ownsRow_nil _ _ _ _,Below.refl _ _⟩
   case round=>
    obtain⟨k,out,hk,rfl,HX,HR,HB⟩:=hrel;obtain⟨va,vc,rfl⟩:=Xd HR.out;have P5:=HB.out.size;have NT:=UY.out;have U3:out.length<=1000:=by rw[HX.out,List.length_map,List.length_take];omega
    by_cases hlt:k<rs.length
    ·obtain⟨b,off,rfl,Tn,ak,ck,ae,ce,hr,_⟩:=Sa.at (R9.out.below jm.kept HB.out) k hlt
     have SV:Hid (out++[rs[k].id]=(rs.take (k+1)).map (·.id)):=by show _=_;rw[List.take_succ_eq_append_getElem hlt,List.map_append, <-HX.out];rfl
     generalize rs[k]=p at*
     have KO:=Lib.hid hr;clear hr
     go_wp2_with (first
      | ((with_reducible show wpList _ _ _ (⟨_,Op.load 38 (.tmp 36),_,_,_,_⟩::_) _ _);refine Lc rfl (.tmp 36) rfl rfl p ak ck ae ce KO.out Tryz.underlying38 rfl Pv.Dg ?_)
      | (((with_reducible show wpList _ _ _ (⟨_,Op.store 38 (.tmp 13) (.tmp 37),_,_,_,_⟩::_) _ _);refine Vc rfl (.tmp 13) (.tmp 37) rfl p ak ck ae ce rfl rfl ?Sj Pv.Dg ?_;(case Sj=>rfl);intro W1 km Un Pu Mu;have FD:=Pu 0 _ rfl;have fP:=Lib.hid Pu;clear Pu);have SZ:Hid (Below wr.heap.size wr (W1.alloc (.cells #[.string p.id] 9))):=km.alloc km.size _;have j9:=Lib.hid (Wd HR.out SZ.out);have P8:Hid (∀j u,([.string p.id]:List Value)[j]? =some u->(W1.alloc (.cells #[.string p.id] 9)).cell? ((⟨wr.heap.size+1,0,none⟩:Addr).add j)=some u):=(by have q:=ZV W1 9 [.string p.id];rw[Un]at q;exact q))
      | (at_builtin;go_loud (refine wpList_append_own_at _ rfl (.tmp 38) (.tmp 41) 33 rfl w7.heap.size 9 i0 z0 1 16 Tryz.underlying33 Kw yx CO tm aeC (by decide) (.slice va out.length vc) _ _ rfl j9.out ⟨wr.heap.size+1,0,none⟩ 1 1 [.string p.id] rfl rfl P8.out (by intro u hu;simp at hu;subst hu;rfl) (by unfold maxLen;omega) (by omega) (by have:=km.size;simp;omega) ?_;intro v9 w9 dx Wz WL aW)))
     have C:=(HB.out.trans (SZ.out.mono HB.out.size)).grown Wz (by have:=HB.out.size;have:=km.size;simp;omega) (λg e=>(HR.out.lt g e).1)
     have ET:Hid (w9.ownsRow w7.heap.size 9 1 v9 (out++[p.id]).length ((out++[p.id]).map Value.string)):=by{show World.ownsRow _ _ _ _ _ _ _;rw[List.length_append,List.map_append];exact dx}
     go_roundw
     case rel=>exact⟨_,_,by omega,by go_num,SV,ET,Lib.hid C⟩
     case measure=>simp[intOf];omega
    {(have YO:Hid (out=bB ps q KE):=by show _=_;rw[HOW.out];have:=HX.out;rw[List.take_of_length_le (by omega)]at this;exact this);have nY:Hid _:=Mw.out.trans (((TP.out.trans (HB.out.mono hs7)).mono aX));have x:=Bt.out.below nY.out;have x0:=x.cell 0;have x1:=x.cell 1;have x2:=x.cell 2;have cS:=Lib.hid (Xz d ps ts out _ _ wr hn U3 (E0.out wr nY.out) (yl HR.out rfl) hsz (HTW.out wr nY.out));(have hAe:AA=Rh d ps ts out:=by rw[HA.out,YO.out]);rw[<-hAe]at cS;clear x hAe YO;go_wp2_with (go_at_call 30;refine cS.out.mono ?_;rintro e w9 ⟨x,rfl,pR,vb,vo,rfl,jF,ez⟩;obtain⟨ba,bc,rfl,_⟩:=Sa.shape jF;obtain⟨oa,oc,rfl,_⟩:=Sa.shape ez;have uX:=Lib.hid jF;have HX2:=Lib.hid ez;have eU:=Lib.hid (nY.out.trans (pR.mono nY.out.size));have HY:=Lib.hid (OT.out.below eU.out);clear jF ez pR;obtain⟨⟨y0,y1,y2,y3⟩,Q9,z1,z2,z3⟩:=HY.out.four);have hcs:=(((HY.out.set 0 (.int .i64 AA.1.state)).set 1 (.int .i64 AA.1.value)).set 2 (.slice ba AA.1.by_.length bc)).set 3 (.slice oa AA.1.over.length oc);obtain⟨⟨q0,q1,q2,q3⟩, -⟩:=qb.four hcs;refine bodyPost_ret (by simp[results,go_sem,q0,q1,q2,q3];try rfl) rfl ?_;have wM:=Jq.out.trans (eU.out.mono mY);(have g:w.heap.size<=w.heap.size+1+1:=by omega);have hbe:=(((wM.setCell (p:=⟨_,0,none⟩) g (.int .i64 AA.1.state)).setCell (p:=⟨_,1,none⟩) g (.int .i64 AA.1.value)).setCell (p:=⟨_,2,none⟩) g (.slice ba AA.1.by_.length bc)).setCell (p:=⟨_,3,none⟩) g (.slice oa AA.1.over.length oc);refine⟨_,rfl,hbe,_,_,rfl,?_,?_⟩;{simp;exact Oj uX.out HY.out cj (dm _ _ _ _ _ _)};{simp;exact Oj HX2.out HY.out cj (dm _ _ _ _ _ _)}}
  {(have e1:(er !=0)=true:=by simpa using he);have hA:=TV.out;rw[if_neg he]at hA;subst hA;have HY:=Lib.hid (OT.out.below Mw.out);clear TV;obtain⟨⟨y0,y1,y2,y3⟩,Q9,z1,z2,z3⟩:=HY.out.four;go_wp2;have hcs:=(((HY.out.set 0 (.int .i64 0)).set 1 (.int .i64 0)).set 2 (.slice none 0 0)).set 3 (.slice none 0 0);obtain⟨⟨q0,q1,q2,q3⟩, -⟩:=qb.four hcs;refine bodyPost_ret (by simp[results,go_sem,q0,q1,q2,q3];try rfl) rfl ?_;have wM:=Jq.out.trans (Mw.out.mono mY);(have g:w.heap.size<=w.heap.size+1+1:=by omega);have hbe:=(((wM.setCell (p:=⟨_,0,none⟩) g (.int .i64 0)).setCell (p:=⟨_,1,none⟩) g (.int .i64 0)).setCell (p:=⟨_,2,none⟩) g (.slice none 0 0)).setCell (p:=⟨_,3,none⟩) g (.slice none 0 0);exact⟨_,rfl,hbe,Qh.nil _ _⟩}
 {(have hb:((Je d ps ts []).2==0)=false:=by simpa using OI);(have hA2:AA=(Qi,1):=by rw[<-HAA.out];unfold Df;rw[if_neg OI]);subst hA2;rw[hb]at lS;clear hb OI HAA IU;go_enter Tryz.func8,Tryz.ntmps8;go_upto_region 1 with(fail);rw[HW.out];go_wp2_with (go_at_call 26;refine lS.out.mono ?_;rintro e w4 ⟨rfl,jy⟩;have HY:=Lib.hid (OT.out.below jy);have Lk:=Lib.hid jy;clear y0 y1 y2 y3 Q9 z1 z2 z3;obtain⟨⟨y0,y1,y2,y3⟩,Q9,z1,z2,z3⟩:=HY.out.four;clear jy);have hcs:=(((HY.out.set 0 (.int .i64 0)).set 1 (.int .i64 0)).set 2 (.slice none 0 0)).set 3 (.slice none 0 0);obtain⟨⟨q0,q1,q2,q3⟩, -⟩:=qb.four hcs;refine bodyPost_ret (by simp[results,go_sem,q0,q1,q2,q3];try rfl) rfl ?_;have wM:=Jq.out.trans (Lk.out.mono mY);(have g:w.heap.size<=w.heap.size+1+1:=by omega);exact⟨_,rfl,(((wM.setCell g _).setCell g _).setCell g _).setCell g _,Qh.nil _ _⟩}
end Go.Proofs.YtdipkbobalnilaaGreatDoor
namespace Go.Proofs
open Go.Shelf
def Tryz.MN:Go.Shelf.Ren:=⟨fun|4=>111|n=>n,fun|22=>33|25=>9|3=>3|4=>4|9=>9|20=>20|0=>0|n=>n,fun|n=>n⟩
theorem Tryz.oY:Go.Proofs.Lays8.n4 Tryz.prog Tryz.MN:={
 mixed:=by kernel_rfl
 f4:=⟨Tryz.f111.name,by decide,Tryz.func111.trans (congrArg some (by kernel_rfl))⟩
 t0:=Tryz.underlying0
 a0:=Tryz.isAgg0
 z0:=Tryz.sizeOf0
 v0:=Tryz.zeroValue0
 t3:=Tryz.underlying3
 a3:=Tryz.isAgg3
 z3:=Tryz.sizeOf3
 v3:=Tryz.zeroValue3
 t4:=Tryz.underlying4
 a4:=Tryz.isAgg4
 z4:=Tryz.sizeOf4
 v4:=Tryz.zeroValue4
 t9:=Tryz.underlying9
 a9:=Tryz.isAgg9
 z9:=Tryz.sizeOf9
 v9:=Tryz.zeroValue9
 t20:=Tryz.underlying20
 a20:=Tryz.isAgg20
 z20:=Tryz.sizeOf20
 v20:=Tryz.zeroValue20
 t22:=Tryz.underlying33
 a22:=Tryz.isAgg33
 z22:=Tryz.sizeOf33
 v22:=Tryz.zeroValue33}
end Go.Proofs
namespace Go.Proofs.YtdipkbobalnilaaGreatDoor
open Go.RowKit
theorem NN(n:Nat)(hn:n<=10000)(w:World):
  Calls Tryz.prog 111 #[.slice none 0 0,.int .i64 n] w λe w'=>∃v,e=.returned v/\Hid (w'.ownsRow w.heap.size 9 1 v 0 [])/\Hid (Below w.heap.size w w'):=by
 obtain⟨i9,z9,hi9,cZ,hz9,apc,pR⟩:=Ln;by_cases h0:n=0
 {subst h0;refine(Any8.slices_Grow_room Tryz.oY none 0 0 0 w (by omega) (by omega) (by omega) (by omega)).mono ?_;rintro e w' ⟨rfl,rfl⟩;exact⟨_,rfl,World.ownsRow_nil _ _ _ _,Below.refl _ _⟩}
 ·refine(Any8.slices_Grow_grow Tryz.oY i9 z9 hi9 hz9 (by omega) none 0 0 n [] w (by omega) (by omega) (by grind) (by omega) (by simp) (λ_=>rfl) (λa h=>by cases h)).mono ?_
  rintro e w' ⟨rfl,rfl⟩;refine⟨_,rfl,⟨rfl,.inr ⟨_,_,_,rfl,(by omega),World.alloc_heap_new _ _,(by omega),grownCap_le_maxLen _ _ _ _ (by unfold maxLen;omega),?_,by simp⟩⟩,(Below.refl _ w).drew.alloc (Nat.le_refl _) _⟩
  grind [grownCap_ge,size_zeroCells]
theorem yH{l m:List ByteArray}{ao bo:Option Addr}{ac bc X:Nat}{w:World}(h0:w.cell? ⟨X,0,none⟩=some (.slice ao l.length ac))(h1:w.cell? ⟨X,1,none⟩=some (.slice bo m.length bc))(hX:X<w.heap.size)(hl:Sc w w.heap.size l (.slice ao l.length ac))(hm:Sc w w.heap.size m (.slice bo m.length bc))(hn:l.length<=1000)(CX:m.length<=1000):
  Calls Tryz.prog 69 #[.slice (some ⟨X,0,none⟩) 2 2] w λe w'=>∃(a:Option Addr) (c:Nat),e=.returned (.slice a (l++m).length c)/\Hid (Below w.heap.size w w')/\Hid (w'.ownsRow w.heap.size 9 1 (.slice a (l++m).length c) (l++m).length ((l++m).map Value.string)):=by
 have HL:=Lib.hid hl;have HM:=Lib.hid hm;have apd:decide (l.length+(m.length:Int)<0)=false:=by simp;omega
 have aji:decide ((l.length:Int)<0)=false:=by simp
 have HG:Hid (Calls Tryz.prog 111 #[.slice none 0 0,.int .i64 (l.length+m.length)] w λe w'=>∃v,e=.returned v/\Hid (w'.ownsRow w.heap.size 9 1 v 0 (([]).map Value.string))/\Hid (Below w.heap.size w w')):=by{have q:=NN (l.length+m.length) (by omega) w;rwa[show(l.length+m.length:Nat)=l.length+m.length from by omega]at q}
 clear hl hm;go_enter Tryz.func69,Tryz.ntmps69;go_upto_region 3 with(fail);refine wp_loop_rounds 3 ?_
 iterate 3 (rw[rounds_succ];go_wp2_with (go_at_call 111;refine HG.out.mono ?_;rintro e w4 ⟨v,rfl,HO,Lk⟩))
 have FI:=Lk.out.size;have y0:=(Lk.out.cell hX).trans h0;have y1:=(Lk.out.cell hX).trans h1;have S1:Hid (∀w',Below _ w w'->l=[]\/∃ad,ao=some ad/\∀j u,(l.map _)[j]? =some u->w'.cell? _=some u):=λw' h=>Sv (Sa.below (Ad.kept _) h HL.out)
 have S2:Hid (∀w',Below _ w w'->m=[]\/∃ad,bo=some ad/\∀j u,(m.map _)[j]? =some u->w'.cell? _=some u):=λw' h=>Sv (Sa.below (Ad.kept _) h HM.out)
 clear h0 h1 HG;refine wp_loop_rounds 3 ?_;rw[rounds_succ];go_wp2_with (at_builtin;go_loud (apply Nj rfl _ _ rfl _ v [] l 0 ao ac rfl rfl HO.out (S1.out _ Lk.out) (by omega) FI;intro v5 w5 E4 yX;have dr:Hid _:=Lk.out.grown yX FI (λg e=>(HO.out.lt g e).1);have D4:=Lib.hid E4;have z1:=(dr.out.cell hX).trans ((Lk.out.cell hX).symm.trans y1);clear E4 yX y0 y1));have LD:=dr.out.size;rw[rounds_succ];go_wp2_with (at_builtin;go_loud (apply Nj rfl _ _ rfl _ v5 _ m _ bo bc rfl rfl D4.out (S2.out _ dr.out) (by omega) LD;intro v6 w6 ho6 hg6;have Mw:Hid _:=dr.out.grown hg6 LD (λg e=>(D4.out.lt g e).1);have F3:=Lib.hid ho6;clear ho6 hg6));rw[rounds_succ];go_wp2;go_ret;have hlen:0+l.length+m.length=(l++m).length:=by simp
 have q:=F3.out;rw[hlen]at q;obtain⟨a,c,rfl⟩:=Xd q;exact⟨a,c,rfl,Mw,q⟩
section
open Go.Sort (grow)
structure UC (B b : Nat) (bs : List UInt8) (w0 w : World) : Prop where
 TQ:BL B b bs w
 mm:Below B w0 w
 gV:Lib.OthersKept 5 (some b) w0 w
 ge:B<=w.heap.size
variable {B b : Nat} {bs : List UInt8} {w0 w : World}
theorem UC.below(h:UC B b bs w0 w){w':World}(hb:Below w.heap.size w w'):UC B b bs w0 w':=
 ⟨ql h.TQ hb,h.mm.trans (hb.mono h.ge),h.gV.trans (Hv hb),by have:=hb.size;have:=h.ge;omega⟩
theorem UC.more(h:UC B b bs w0 w){w':World}{I4:List UInt8}(h1:BL B b I4 w')(h2:Below B w w')(h3:Lib.OthersKept 5 (some b) w w'):UC B b I4 w0 w':=
 ⟨h1,h.mm.trans h2,h.gV.trans h3,by have:=h2.size;have:=h.ge;omega⟩
theorem UC.Pd(h:UC B b bs w0 w){x:Nat}{t:TypeId}{cs:Array Value}(hx:qb w0 x t cs)(hne:x≠b)(ht:t≠5):qb w x t cs:=h.gV x _ hx (by simp[hne]) (sn ht)
theorem mS(s:ByteArray)(hs:s.size≤1000000)(h:UC B b bs w0 w)(hl:bs.length≤10000000000)(hT:Lib.TabBelow Tryz.prog B w0 "internal/strconv.uint64pow10" .u64 Lib.pow10Tab):
  Calls Tryz.prog 66 #[.string s,.pointer (some ⟨b,0,none⟩)] w λe w'=>e=.returned (.tuple #[])/\Hid (UC B b (bs++fm s.toList) w0 w'):=by
 have hIT:Hid (Calls Tryz.prog 68 #[.int .i64 s.size] w λe w'=>∃u:ByteArray,e=.returned (.string u)/\u.size<=21/\Hid (UC B b bs w0 w')/\Hid (u.toList=Lib.itoa s.size)):=by
  refine(Tryz.strconv_Itoa _ (by omega) (by omega) w (hT.on h.mm).here).mono ?_;rintro e w' ⟨rfl,k,os,rfl⟩;refine⟨_,rfl,?_,h.below (Jl w k os),?_⟩
  ·have:=Lib.itoa_length_le s.size (by omega) (by omega)
   show(Lib.itoa s.size).toArray.size<=21
   exact this
  {show _=_;rw[ByteArray.toList_eq]}
 have J4:Hid (∀w' (u:ByteArray),Hid (UC B b bs w0 w')->u.size<=2000000->Calls Tryz.prog 67 #[.pointer (some ⟨b,0,none⟩),.string u] w' λe w''=>e=.returned (.tuple #[.int .i64 u.size,.nilIface])/\Hid (UC B b (bs++u.toList) w0 w'')):=by{intro w' u hk hu;refine(Tryz.Builder_WriteString_k B b _ u w' hk.out.TQ (by simp[Lib.byteCells];omega) hk.out.ge).mono ?_;rintro e w'' ⟨rfl,h1,h2,h3⟩;refine⟨rfl,hk.out.more (.inr ?_) h2 h3⟩;rw[Lib.byteCells_append,ByteArray.toList_eq];exact h1}
 clear h hT hl;go_enter Tryz.func66,Tryz.ntmps66
 go_wp2_with (first
  | (go_at_call 68;refine hIT.out.mono ?_;rintro e w4 ⟨u,rfl,hu,hk4,Q3⟩)
  | (go_at_call 67;refine(J4.out _ _ hk4 (by rw[ByteArray.size_append,ByteArray.size_append];show u.size+1+s.size<=_;omega)).mono ?_;rintro e w5 ⟨rfl,K4⟩))
 go_end0
 have e:(u++(⟨#[58]⟩)++s).toList=fm s.toList:=by{(have q:∀x y:ByteArray,(x++y).toList=x.toList++y.toList:=λx y=>by simp only[ByteArray.toList_eq,ByteArray.data_append,Array.toList_append]);(have h58:(⟨#[58]⟩:ByteArray).toList=[58]:=by rw[ByteArray.toList_eq]);(have hsz:s.toList.length=s.size:=by rw[ByteArray.toList_eq];rfl);rw[q,q,Q3.out,h58,List.append_assoc];unfold fm;rw[hsz];rfl}
 rw[e]at K4;exact⟨rfl,K4⟩
theorem bW{w w':World}{base n:Nat}{v:Value}{xs:List Value}(h:w.ownsRow base 9 1 v n xs)(ho:Lib.OthersKept 5 (some b) w w')(hb:b<base):w'.ownsRow base 9 1 v n xs:=by
 refine⟨h.1,h.2.imp id ?_⟩;rintro⟨g,cap,Aq,rfl,h1,h2,h3⟩;exact⟨g,cap,Aq,rfl,h1,ho g _ h2 (by simp;omega) (sn (by decide)),h3⟩
theorem cW(a:Jo)(v:Value)(w:World)(ha:Qh w w.heap.size a v)(h1:Wh a.state)(h2:Wh a.value)(h3:a.by_.length<=1000)(h4:a.over.length<=1000)(h5:∀s∈a.by_++a.over,s.size<=1000000)(hT:Jh w.heap.size w):
  Calls Tryz.prog 33 #[v] w λe w'=>e=.returned (.string (Ap a))/\Below w.heap.size w w':=by
 obtain⟨vb,vo,rfl,hb,ho⟩:=ha;obtain⟨ba,bc,rfl,_⟩:=Sa.shape hb;obtain⟨oa,oc,rfl,_⟩:=Sa.shape ho;obtain⟨st,vl,by_,over⟩:=a
 dsimp only at*
 have CA:=UD (w.alloc (.cells #[.int .i64 st,.int .i64 vl,.slice ba by_.length bc,.slice oa over.length oc] 42));have K0:=(qb.new w 42 #[.int .i64 st,.int .i64 vl,.slice ba by_.length bc,.slice oa over.length oc]).alloc (.cells #[.pointer none,.slice none 0 0] 141);have Am:Below _ w ((w.alloc (.cells #[.int .i64 st,.int .i64 vl,.slice ba by_.length bc,.slice oa over.length oc] 42)).alloc (.cells #[.pointer none,.slice none 0 0] 141)):=((Below.refl _ _).alloc (Nat.le_refl _) _).alloc (by simp) _;have Qu:w.heap.size+1<((w.alloc (.cells #[.int .i64 st,.int .i64 vl,.slice ba by_.length bc,.slice oa over.length oc] 42)).alloc (.cells #[.pointer none,.slice none 0 0] 141)).heap.size:=by simp
 rw[World.size_alloc]at CA;obtain⟨W2,UL⟩:∃W2,(w.alloc (.cells #[.int .i64 st,.int .i64 vl,.slice ba by_.length bc,.slice oa over.length oc] 42)).alloc (.cells #[.pointer none,.slice none 0 0] 141)=W2:=⟨_,rfl⟩;rw[UL]at CA K0 Am Qu;have EZ:=Lib.hid UL;have KY0:Hid (UC _ _ [] W2 W2):=⟨CA,Below.refl _ _,Lib.OthersKept.refl _ _ _,by omega⟩;have uZ:Hid (Lib.TabBelow _ (w.heap.size+1) W2 _ _ _):=λw' h=>hT w' (Am.trans (h.mono (by omega)))
 have E3:Hid (∀w' bs n,Wh n->Hid (UC (w.heap.size+1) (w.heap.size+1) bs W2 w')->Calls Tryz.prog 68 #[.int .i64 n] w' λe w''=>∃u:ByteArray,e=.returned (.string u)/\u.size<=21/\Hid (UC (w.heap.size+1) (w.heap.size+1) bs W2 w'')/\Hid (u.toList=Lib.itoa n)):=by
  intro w' bs n hn hk;refine(Tryz.strconv_Itoa n hn.1 hn.2 w' (uZ.out.on hk.out.mm).here).mono ?_;rintro e w'' ⟨rfl,k,os,rfl⟩;refine⟨_,rfl,?_,hk.out.below (Jl w' k os),?_⟩
  ·have:=Lib.itoa_length_le n hn.1 hn.2
   show(Lib.itoa n).toArray.size<=21
   exact this
  {show _=_;rw[ByteArray.toList_eq]}
 have HWR:Hid (∀w' bs s,Hid (UC (w.heap.size+1) (w.heap.size+1) bs W2 w')->s.size<=1000000->bs.length<=10000000000->Calls Tryz.prog 66 #[.string s,.pointer (some ⟨w.heap.size+1,0,none⟩)] w' λe w''=>e=.returned (.tuple #[])/\∃I4,Hid (I4=bs++fm s.toList)/\I4.length<=bs.length+s.size+30/\Hid (UC (w.heap.size+1) (w.heap.size+1) I4 W2 w'')/\Hid (Lib.OthersKept 5 (some (w.heap.size+1)) w' w'')):=by{intro w' bs s hk hs hl;refine(mS s hs (⟨hk.out.TQ,Below.refl _ _,Lib.OthersKept.refl _ _ _,hk.out.ge⟩) hl (uZ.out.on hk.out.mm)).mono ?_;rintro e w'' ⟨rfl,h⟩;refine⟨rfl,_,Lib.hid rfl,?_,hk.out.more h.out.TQ h.out.mm h.out.gV,h.out.gV⟩;(have hsz:s.toList.length=s.size:=by rw[ByteArray.toList_eq];rfl);have:=Lib.itoa_length_le s.toList.length (by omega) (by omega);unfold fm;rw[List.length_append,List.length_append,List.length_cons,hsz];have e:=this;rw[hsz]at e;omega}
 have Bt:=Lib.hid K0;have OA:=Lib.hid Am;have ZO:=Lib.hid hb;have L4:=Lib.hid ho;have H5:=Lib.hid h5;have x0:=K0.cell 0;clear CA K0 Am hT hb ho h5 UL;go_enter Tryz.func33,Tryz.ntmps33;go_upto_region 3 with(fail);rw[EZ.out]
 go_upto_region 4 with(first
  | (go_at_call 68;refine(E3.out _ _ _ h1 KY0).mono ?_;rintro e w3 ⟨u3,rfl,JO,KY3,HU3⟩)
  | (go_at_call 66;refine(HWR.out _ _ _ KY3 (by omega) (by simp)).mono ?_;rintro e w4 ⟨rfl,t4,HT4,hl4,KY4,_⟩))
 have x1:=(KY4.out.Pd Bt.out (by omega) (by decide)).cell 1;simp only[List.length_nil]at hl4;clear x0
 go_upto_region 5 with(first
  | (go_at_call 68;refine(E3.out _ _ _ h2 KY4).mono ?_;rintro e w5 ⟨u5,rfl,hu5,KY5,HU5⟩)
  | (go_at_call 66;refine(HWR.out _ _ _ KY5 (by omega) (by omega)).mono ?_;rintro e w6 ⟨rfl,t6,HT6,hl6,KY6,_⟩))
 have x2:=(KY6.out.Pd Bt.out (by omega) (by decide)).cell 2;clear x1
 go_upto_region 6 with(first
  | (go_at_call 68;refine(E3.out _ _ _ ⟨by omega,by omega⟩ KY6).mono ?_;rintro e w7 ⟨u7,rfl,hu7,KY7,HU7⟩)
  | (go_at_call 66;refine(HWR.out _ _ _ KY7 (by omega) (by omega)).mono ?_;rintro e w8 ⟨rfl,t8,HT8,hl8,KY8,_⟩))
 have KC2:=(KY8.out.Pd Bt.out (by omega) (by decide));have x2:=KC2.cell 2;have x3:=KC2.cell 3;clear KC2 Qu;have KP:=KY8.out.ge;obtain⟨ids,zK⟩:∃ids,by_++over=ids:=⟨_,rfl⟩;have NA:=Lib.hid zK;have hl9:ids.length<=2000:=by rw[<-zK,List.length_append];omega
 have H5:Hid (∀s∈ids,s.size<=1000000):=by rw[<-zK];exact H5.out
 clear zK
 have HJ9:Hid (Calls Tryz.prog 69 #[.slice (some ⟨w8.heap.size,0,none⟩) 2 2] (w8.alloc (.cells #[.slice ba by_.length bc,.slice oa over.length oc] 33)) λe w'=>∃(a:Option Addr) (c:Nat),e=.returned (.slice a ids.length c)/\Hid (UC (w.heap.size+1) (w.heap.size+1) t8 W2 w')/\Hid (w'.ownsRow (w.heap.size+2) 9 1 (.slice a ids.length c) ids.length (ids.map Value.string))):=by{have k:=qb.new w8 33 #[.slice ba by_.length bc,.slice oa over.length oc];have MX:Below _ w (w8.alloc (.cells #[.slice ba by_.length bc,.slice oa over.length oc] 33)):=(OA.out.trans (KY8.out.mm.mono (by omega))).trans (((Below.refl _ _).alloc (Nat.le_refl _) _).mono (by omega));(have hsa:(w8.alloc (.cells #[.slice ba by_.length bc,.slice oa over.length oc] 33)).heap.size=w8.heap.size+1:=by simp);refine(yH (k.cell 0) (k.cell 1) (by omega) (Sa.mono (Ad.mono _) MX.size (Sa.below (Ad.kept _) MX ZO.out)) (Sa.mono (Ad.mono _) MX.size (Sa.below (Ad.kept _) MX L4.out)) h3 h4).mono ?_;rintro e w9 ⟨a,c,rfl,pR,ho9⟩;rw[NA.out]at*;exact⟨a,c,rfl,(KY8.out.below ((Below.refl _ _).alloc (by omega) _)).below pR.out,Wp ho9.out (by omega)⟩}
 go_upto_region 8 with(go_at_call 69;refine HJ9.out.mono ?_;rintro e w9 ⟨ra,rc,rfl,KY9,gP⟩);clear x2 x3 HJ9
 have HTX:Hid (t8=fm (Lib.itoa st)++(fm (Lib.itoa vl)++fm (Lib.itoa by_.length))):=by{show _=_;rw[HT8.out,HT6.out,HT4.out,HU3.out,HU5.out,HU7.out,List.nil_append,List.append_assoc]}
 have nH:t8.length<=200:=by omega
 clear hl8 hl6 hl4 JO hu5 hu7
 have HEX:Hid (Ej ⟨st,vl,by_,over⟩=t8++ids.flatMap λs=>fm s.toList):=by{show _=_;rw[HTX.out];unfold Ej;simp only[List.append_assoc,NA.out]}
 clear HTX HT8 HT6 HT4 HU3 HU5 HU7 L4 ZO
 go_loopw [31] (λiv wr=>∃(k:Nat) (bs:List UInt8),k<=ids.length/\iv=.int .i64 k/\Hid (bs=t8++(ids.take k).flatMap λs=>fm s.toList)/\bs.length<=200+k*1000030/\Hid (UC (w.heap.size+1) (w.heap.size+1) bs W2 wr)/\Hid (wr.ownsRow (w.heap.size+2) 9 1 (.slice ra ids.length rc) ids.length (ids.map Value.string))) (λiv _=>ids.length-(intOf iv).toNat)
 case atStart=>exact⟨0,t8,(by omega),rfl,by show _=_;simp,by omega,KY9,gP⟩
 case round=>(obtain⟨k,bs,hk,rfl,HX,CA,HK,HO⟩:=hrel;by_cases hlt:k<ids.length;{obtain⟨b,off,rfl,Tn,hs⟩:=Sa.one (yl HO.out rfl) k hlt;have hsz:=H5.out _ (List.getElem_mem hlt);have SV:Hid (bs++fm ids[k].toList=t8++(ids.take (k+1)).flatMap λs=>fm s.toList):=by{show _=_;rw[List.take_succ_eq_append_getElem hlt,List.flatMap_append, <-List.append_assoc, <-HX.out];simp};generalize ids[k]=s at*;go_wp2_with (go_at_call 66;refine(HWR.out _ _ _ HK hsz (by omega)).mono ?_;rintro e w4 ⟨rfl,t4,HT4,hl4,mU,P3⟩);go_roundw;(case rel=>exact⟨_,t4,by omega,by go_num,Lib.hid (HT4.out.trans SV.out),by omega,mU,Lib.hid (bW HO.out P3.out (by omega))⟩);case measure=>simp[intOf];omega};{(have YO:Hid (bs=Ej ⟨st,vl,by_,over⟩):=by have:=HX.out;rw[List.take_of_length_le (by omega)]at this;exact this.trans HEX.out.symm);go_wp2_with (go_at_call 70;refine(Tryz.Builder_String_any_k _ _ _ _ HK.out.TQ HK.out.ge).mono ?_;rintro e w5 ⟨rfl,h1,h2,h3⟩);go_ret;refine⟨?_,OA.out.trans ((HK.out.mm.trans h2).mono (by omega))⟩;rw[YO.out];rfl})
end
end Go.Proofs.YtdipkbobalnilaaGreatDoor
