/- The walk of And where one of the diagrams is not canonical. No conditions. -/
import Derived.Test.YtejbgoigkefnfaaGreatDoorAl
import Derived.Test.YtejbgoigkefnfaaGreatDoorDgLawP
set_option maxRecDepth 100000
set_option maxHeartbeats 4000000
namespace Go.Proofs.YtejbgoigkefnfaaGreatDoor
open Go.RowKit
def iz (n:Int)(x:Dn):Bool:=decide ((x.kids.length:Int)<=n)&& decide ((x.Ja.length:Int)<=n)
def lz (t:List Dn)(n:Int):Bool:=decide ((t.length:Int)<=n)&& t.all (iz n)
theorem kP {α:Type}(p:α->Bool)(l:List α)(k:Nat)(h:k<l.length):(l.drop k).all p=(p l[k]&& (l.drop (k+1)).all p):=by
 rw[Qb h,Ld]
theorem fT (t:List Dn)(n:Int)(vg:Value)(w:World)(hg:oe w w.heap.size t vg):
  Calls Tryz.prog 22 #[vg,.int .i64 n] w fun e w'=>e=.returned (.bool (lz t n))/\ Below w.heap.size w w':=by
 obtain⟨u,rfl,hg2⟩:=hg;have HG:=da hg2;obtain⟨a,c,rfl,l1,l2,_⟩:=Xa.shape hg2;unfold maxLen at l2;have Ve:Hid (Below w.heap.size w (w.alloc (.cells #[.slice a t.length c] 34))):=(za _ _).alloc (ja _) _;have HK:Hid (Bb (w.alloc (.cells #[.slice a t.length c] 34)) w.heap.size 34 #[.slice a t.length c]):=Bb.new _ _ _;have hs1:((w.alloc (.cells #[.slice a t.length c] 34))).heap.size=w.heap.size+1:=by simp
 obtain⟨W,hW⟩:∃W,(w.alloc (.cells #[.slice a t.length c] 34))=W:=⟨_,rfl⟩;rw[hW]at Ve HK hs1;have HW:=da hW;clear hg2 hW;have x0:=HK.out.cell 0;obtain⟨R,hR⟩:∃R,lz t n=R:=⟨_,rfl⟩;rw[hR];have HR:=da hR;clear hR;by_cases hl:(t.length:Int)<=n
 ·have HS:Hid (R=(t.drop 0).all (iz n)):=by
   show _=_
   rw[<-HR.out];unfold lz;rw[Ma hl,Sd,Ge]
  clear HR;go_enter Tryz.func22,Tryz.ntmps22;go_upto_region 1 with(fail);rw[HW.out];go_wp2
  go_loopw [5] (fun iv wr=>∃k:Nat,k<=t.length/\ iv=.int .i64 k/\ Hid (R=(t.drop k).all (iz n))/\ Hid (Below W.heap.size W wr)) (fun iv _=>t.length-(intOf iv).toNat)
  case atStart=>exact⟨0,ia,rfl,HS,za _ _⟩
  case round=>
   obtain⟨k,hk,rfl,Nr,hb⟩:=hrel;clear HS x0;have x0:=(HK.out.below hb.out).cell 0;by_cases hlt:k<t.length
   ·obtain⟨b,o,rfl,Rj,vc,vk,n0,n1,n2,n3,Jj,hki⟩:=HG.out.at k hlt
    have Ri:=Nr.out;rw[kP _ _ _ hlt]at Ri;have Zd:=Ve.out.trans (hb.out.mono ia);have q1:=(Zd.cell (p:=⟨b,o+k*4+1,none⟩) (by show b<w.heap.size;omega)).trans n1;have q2:=(Zd.cell (p:=⟨b,o+k*4+2,none⟩) (by show b<w.heap.size;omega)).trans n2;obtain⟨ac,cc,rfl,_⟩:=Xa.shape Jj;obtain⟨ak,ck,rfl,_⟩:=Xa.shape hki;have ik:Hid (R=(iz n t[k]&& (t.drop (k+1)).all (iz n))):=Ri;clear Jj hki n0 n1 n2 n3 Nr Ri Zd;generalize t[k]=x at*
    by_cases h1:(x.kids.length:Int)<=n
    ·by_cases h2:(x.Ja.length:Int)<=n
     ·have HS:Hid (R=(t.drop (k+1)).all (iz n)):=by
       show _=_
       rw[ik.out];unfold iz;rw[Ma h1,Ma h2];rfl
      clear ik;go_wp2;go_roundw
      case rel=>exact⟨k+1,ia,by go_num,HS,hb⟩
      case measure=>simp[intOf];omega
     ·have HS:Hid (R=false):=by
       show _=_
       rw[ik.out];unfold iz;rw[Ia h2,Bool.and_false];rfl
      clear ik;go_wp2;go_ret;exact⟨Oa HS.out.symm,Ve.out.trans (hb.out.mono ia)⟩
    ·have HS:Hid (R=false):=by
      show _=_
      rw[ik.out];unfold iz;rw[Ia h1];rfl
     clear ik;go_wp2;go_ret;exact⟨Oa HS.out.symm,Ve.out.trans (hb.out.mono ia)⟩
   ·have HS:Hid (R=true):=by
     show _=_
     rw[Nr.out,Ta ia];rfl
    clear Nr;go_wp2;go_ret;exact⟨Oa HS.out.symm,Ve.out.trans (hb.out.mono ia)⟩
 ·have HS:Hid (R=false):=by
   show _=_
   rw[<-HR.out];unfold lz;rw[Ia hl];rfl
  clear HR;go_enter Tryz.func22,Tryz.ntmps22;go_upto_region 1 with(fail);rw[HW.out];go_wp2
  go_loopw [5] (fun iv wr=>iv=.int .i64 0/\ Hid (Below W.heap.size W wr)) (fun iv _=>0)
  case atStart=>exact⟨rfl,za _ _⟩
  case round=>(obtain⟨rfl,hb⟩:=hrel;clear x0;have x0:=(HK.out.below hb.out).cell 0;have cA:decide ((t.length:Int)<=n)=false:=Ia ia;by_cases hz:0<t.length;{go_wp2;refine Qa (by simp[results,Tryz.results22,go_sem];try rfl) rfl ?_;exact⟨Oa HS.out.symm,Ve.out.trans (hb.out.mono ia)⟩};{go_wp2;refine Qa (by simp[results,Tryz.results22,go_sem];try rfl) rfl ?_;exact⟨Oa HS.out.symm,Ve.out.trans (hb.out.mono ia)⟩})
theorem NF {ta tb:List Dn}{d:List Fa}{w:World}{aa ab ad:Option Addr}{ca cb cd:Nat}(ha:oe w w.heap.size ta (.agg #[.slice aa ta.length ca]))(hb:oe w w.heap.size tb (.agg #[.slice ab tb.length cb]))(hd:bf w w.heap.size d (.agg #[.slice ad d.length cd]))(hT:tm w.heap.size w):
  Hid (AM w (((w.alloc (.cells #[.slice aa ta.length ca] 34)).alloc (.cells #[.slice ab tb.length cb] 34)).alloc (.cells #[.slice ad d.length cd] 27)))/\ Hid (Ep (((w.alloc (.cells #[.slice aa ta.length ca] 34)).alloc (.cells #[.slice ab tb.length cb] 34)).alloc (.cells #[.slice ad d.length cd] 27)) w.heap.size ta aa ca)/\ Hid (Ep (((w.alloc (.cells #[.slice aa ta.length ca] 34)).alloc (.cells #[.slice ab tb.length cb] 34)).alloc (.cells #[.slice ad d.length cd] 27)) (w.heap.size+1) tb ab cb)/\ Hid (qH (((w.alloc (.cells #[.slice aa ta.length ca] 34)).alloc (.cells #[.slice ab tb.length cb] 34)).alloc (.cells #[.slice ad d.length cd] 27)) (w.heap.size+1+1) d ad cd):=by
 have h3:Below w.heap.size w (((w.alloc (.cells #[.slice aa ta.length ca] 34)).alloc (.cells #[.slice ab tb.length cb] 34)).alloc (.cells #[.slice ad d.length cd] 27)):=(((za _ _).alloc (ja _) _).alloc la _).alloc (by simp;omega) _;have k0:Bb (((w.alloc (.cells #[.slice aa ta.length ca] 34)).alloc (.cells #[.slice ab tb.length cb] 34)).alloc (.cells #[.slice ad d.length cd] 27)) w.heap.size 34 #[.slice aa ta.length ca]:=((Bb.new w 34 #[.slice aa ta.length ca]).alloc _).alloc _
 have k1:Bb (((w.alloc (.cells #[.slice aa ta.length ca] 34)).alloc (.cells #[.slice ab tb.length cb] 34)).alloc (.cells #[.slice ad d.length cd] 27)) (w.heap.size+1) 34 #[.slice ab tb.length cb]:=by{have q:=(Bb.new (w.alloc (.cells #[.slice aa ta.length ca] 34)) 34 #[.slice ab tb.length cb]).alloc (.cells #[.slice ad d.length cd] 27);rw[Ba]at q;exact q}
 have k2:Bb (((w.alloc (.cells #[.slice aa ta.length ca] 34)).alloc (.cells #[.slice ab tb.length cb] 34)).alloc (.cells #[.slice ad d.length cd] 27)) (w.heap.size+1+1) 27 #[.slice ad d.length cd]:=by{have q:=Bb.new ((w.alloc (.cells #[.slice aa ta.length ca] 34)).alloc (.cells #[.slice ab tb.length cb] 34)) 27 #[.slice ad d.length cd];rw[Ba,Ba]at q;exact q}
 exact⟨(KS hT).step h3,⟨k0,(ha.below h3).mono h3.size⟩,⟨k1,(hb.below h3).mono h3.size⟩,⟨k2,(hd.below h3).mono h3.size⟩⟩
theorem TA {ta tb:List Dn}{d:List Fa}{w:World}{aa ab ad:Option Addr}{ca cb cd:Nat}(ha:oe w w.heap.size ta (.agg #[.slice aa ta.length ca]))(hb:oe w w.heap.size tb (.agg #[.slice ab tb.length cb]))(hd:bf w w.heap.size d (.agg #[.slice ad d.length cd]))(hT:tm w.heap.size w):
  Hid (AM w ((((w.alloc (.cells #[.slice aa ta.length ca] 34)).alloc (.cells #[.slice ab tb.length cb] 34)).alloc (.cells #[.slice ad d.length cd] 27)).alloc (.cells #[.slice none 0 0] 34)))/\ Hid (Ep ((((w.alloc (.cells #[.slice aa ta.length ca] 34)).alloc (.cells #[.slice ab tb.length cb] 34)).alloc (.cells #[.slice ad d.length cd] 27)).alloc (.cells #[.slice none 0 0] 34)) w.heap.size ta aa ca)/\ Hid (Ep ((((w.alloc (.cells #[.slice aa ta.length ca] 34)).alloc (.cells #[.slice ab tb.length cb] 34)).alloc (.cells #[.slice ad d.length cd] 27)).alloc (.cells #[.slice none 0 0] 34)) (w.heap.size+1) tb ab cb)/\ Hid (qH ((((w.alloc (.cells #[.slice aa ta.length ca] 34)).alloc (.cells #[.slice ab tb.length cb] 34)).alloc (.cells #[.slice ad d.length cd] 27)).alloc (.cells #[.slice none 0 0] 34)) (w.heap.size+1+1) d ad cd)/\ Hid (Bb ((((w.alloc (.cells #[.slice aa ta.length ca] 34)).alloc (.cells #[.slice ab tb.length cb] 34)).alloc (.cells #[.slice ad d.length cd] 27)).alloc (.cells #[.slice none 0 0] 34)) (w.heap.size+1+1+1) 34 #[.slice none 0 0]):=by
 obtain⟨h1,h2,h3,h4⟩:=NF ha hb hd hT;have hs:Below ((((w.alloc (.cells #[.slice aa ta.length ca] 34)).alloc (.cells #[.slice ab tb.length cb] 34)).alloc (.cells #[.slice ad d.length cd] 27))).heap.size (((w.alloc (.cells #[.slice aa ta.length ca] 34)).alloc (.cells #[.slice ab tb.length cb] 34)).alloc (.cells #[.slice ad d.length cd] 27)) ((((w.alloc (.cells #[.slice aa ta.length ca] 34)).alloc (.cells #[.slice ab tb.length cb] 34)).alloc (.cells #[.slice ad d.length cd] 27)).alloc (.cells #[.slice none 0 0] 34)):=(za _ _).alloc (ja _) _
 have k3:Bb ((((w.alloc (.cells #[.slice aa ta.length ca] 34)).alloc (.cells #[.slice ab tb.length cb] 34)).alloc (.cells #[.slice ad d.length cd] 27)).alloc (.cells #[.slice none 0 0] 34)) (w.heap.size+1+1+1) 34 #[.slice none 0 0]:=by{have q:=Bb.new (((w.alloc (.cells #[.slice aa ta.length ca] 34)).alloc (.cells #[.slice ab tb.length cb] 34)).alloc (.cells #[.slice ad d.length cd] 27)) 34 #[.slice none 0 0];rw[Ba,Ba,Ba]at q;exact q}
 exact⟨h1.out.step hs,h2.out.step hs,h3.out.step hs,h4.out.step hs,k3⟩
theorem mN {ta tb:List Dn}{d:List Fa}{w:World}{va vb u:Value}(ha:oe w w.heap.size ta va)(hb:oe w w.heap.size tb vb)(hd:bf w w.heap.size d u)(hT:tm w.heap.size w)(Gq:∀n∈ta,Rs n)(zE:∀n∈tb,Rs n)(hno:(Re d ta&& Re d tb)=false):
  Calls Tryz.prog 24 #[va,vb,u] w fun e w'=>e=.returned (.tuple #[.agg #[.slice none 0 0],.int .i64 1])/\ Below w.heap.size w w':=by
 have jR:=ha;have Ff:=hb;have GC:=hd;obtain⟨_,rfl,h1⟩:=ha;obtain⟨_,rfl,h2⟩:=hb;obtain⟨_,rfl,h3⟩:=hd;obtain⟨aa,ca,rfl,_⟩:=Xa.shape h1;obtain⟨ab,cb,rfl,_⟩:=Xa.shape h2;obtain⟨ad,cd,rfl,_⟩:=Xa.shape h3;obtain⟨HE,HA,HB,HD,HK⟩:=TA jR Ff GC hT;clear jR Ff GC h1 h2 h3 hT;obtain⟨W,hW⟩:∃W,((((w.alloc (.cells #[.slice aa ta.length ca] 34)).alloc (.cells #[.slice ab tb.length cb] 34)).alloc (.cells #[.slice ad d.length cd] 27)).alloc (.cells #[.slice none 0 0] 34))=W:=⟨_,rfl⟩;rw[hW]at HE HA HB HD HK;have HW:=da hW;clear hW;have Yi:Hid (Below W.heap.size W W):=za _ _
 have Og:Hid (∀w',Hid (Below W.heap.size W w')->w'.cell? ⟨w.heap.size,0,none⟩=some (.slice aa ta.length ca)/\ w'.cell? ⟨w.heap.size+1,0,none⟩=some (.slice ab tb.length cb)/\ w'.cell? ⟨w.heap.size+1+1,0,none⟩=some (.slice ad d.length cd)):=fun w' hb=>⟨(HA.out.box.below hb.out).cell 0,(HB.out.box.below hb.out).cell 0,(HD.out.box.below hb.out).cell 0⟩
 have TG:=da (fun w' (hb:Hid (Below W.heap.size W w'))=>zo HE HA HD Gq hb);have Xw:=da (fun w' (hb:Hid (Below W.heap.size W w'))=>zo HE HB HD zE hb);obtain⟨x0,y0,z0⟩:=Og.out W Yi;clear Gq zE;cases Mu:Re d ta with| false=>{rw[Mu]at TG;clear hno;go_enter Tryz.func24,Tryz.ntmps24;go_upto_region 1 with(fail);rw[HW.out];go_upto_region 2 with(go_at_call_of 15 aa;refine(TG.out _ Yi).mono ?_;rintro e w1 ⟨rfl,Ve⟩;(clear x0 y0 z0;obtain⟨x0,y0,z0⟩:=Og.out _ Da));generalize hwz:w1=wZ at*;(have HN:=da (HK.out.below (show Hid (Below W.heap.size W wZ) by assumption).out);have n0:=HN.out.cell 0;have f0:=HN.out.frozen 0;clear x0 y0 z0;go_wp2;refine Qa (by simp[results,Tryz.results24,go_sem,n0];try rfl) rfl ?_;exact⟨rfl,(HE.out.low.trans ((show Hid (Below W.heap.size W wZ) by assumption).out.mono HE.out.low.size)).setCell (p:=⟨w.heap.size+1+1+1,0,none⟩) (by show w.heap.size<=w.heap.size+1+1+1;omega) _⟩)}| true=>{(have Hn:Re d tb=false:=by rw[Mu]at hno;simpa using hno);rw[Mu]at TG;rw[Hn]at Xw;clear hno;go_enter Tryz.func24,Tryz.ntmps24;go_upto_region 1 with(fail);rw[HW.out];go_upto_region 2 with(first | (go_at_call_of 15 aa;refine(TG.out _ Yi).mono ?_;rintro e w1 ⟨rfl,Ve⟩;(clear x0 y0 z0;obtain⟨x0,y0,z0⟩:=Og.out _ Da)) | (go_at_call_of 15 ab;refine(Xw.out _ Ve).mono ?_;rintro e w2 ⟨rfl,Vd⟩;(clear x0 y0 z0;obtain⟨x0,y0,z0⟩:=Og.out _ Da)));generalize hwz:w2=wZ at*;(have HN:=da (HK.out.below (show Hid (Below W.heap.size W wZ) by assumption).out);have n0:=HN.out.cell 0;have f0:=HN.out.frozen 0;clear x0 y0 z0;go_wp2;refine Qa (by simp[results,Tryz.results24,go_sem,n0];try rfl) rfl ?_;exact⟨rfl,(HE.out.low.trans ((show Hid (Below W.heap.size W wZ) by assumption).out.mono HE.out.low.size)).setCell (p:=⟨w.heap.size+1+1+1,0,none⟩) (by show w.heap.size<=w.heap.size+1+1+1;omega) _⟩)}
theorem mz {W w:World}{t:List Dn}{b:Nat}{a:Option Addr}{c:Nat}(n:Int)(HV:Hid (Ep W b t a c))(hW:Hid (Below W.heap.size W w)):
  Calls Tryz.prog 22 #[.agg #[.slice a t.length c],.int .i64 n] w fun e w'=>e=.returned (.bool (lz t n))/\ Hid (Below W.heap.size W w'):=by
 refine(fT t n _ w (HV.out.step hW.out).dg).mono ?_;rintro e w' ⟨rfl,h2⟩;exact⟨rfl,jh hW h2⟩
end Go.Proofs.YtejbgoigkefnfaaGreatDoor
