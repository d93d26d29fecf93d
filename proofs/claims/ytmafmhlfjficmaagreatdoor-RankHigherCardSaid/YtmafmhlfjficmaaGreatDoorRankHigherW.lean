/- The walk of law15.RankHigher. No conditions. -/
import Derived.Test.YtmafmhlfjficmaaGreatDoorRkLA
namespace Go.Proofs.YtmafmhlfjficmaaGreatDoor
open Go.RowKit
set_option maxRecDepth 100000 in
set_option maxHeartbeats 4000000 in
theorem rankHigher_any {d:List Fa}{ps:List Pv}{ts:List Int}{v:Value}(w:World)(hl:LawT w w.heap.size d ps ts v){a b:Int}(_:W64 a)(_:W64 b)(hT:TabH w.heap.size w):
  Calls Tryz.prog 5 #[v,.int .i64 a,.int .i64 b] w fun e w'=>e=.returned (.bool true)/\ Below w.heap.size w w':=by
 have hl0:=hl;obtain⟨u1,u2,u3,rfl,hd,hp,ht⟩:=hl;obtain⟨ad,cd,rfl,_⟩:=SlIn.shape hd;obtain⟨ap,cp,rfl,p1,p2,_⟩:=SlIn.shape hp;obtain⟨at_,ct,rfl,_⟩:=SlIn.shape ht;have HP:=Lib.hid hp;have HL:=lwl_start (cs:=#[.slice ad d.length cd,.slice ap ps.length cp,.slice at_ ts.length ct]) hl0 hT;have y0:=HL.out.box.cell 0;have y1:=HL.out.box.cell 1;have y2:=HL.out.box.cell 2;clear hl0 hd hp ht hT;cases hf:fewL d ps 8 with
 | false=>
  go_enter Tryz.func5,Tryz.ntmps5;go_upto_region 2 with(go_at_call 9;refine(lwl_head HL).mono ?_;rintro e w2 ⟨rfl,HL2⟩;(clear y0 y1 y2;have HL:=HL2;clear HL2;(have y0:=HL.out.box.cell 0;have y1:=HL.out.box.cell 1;have y2:=HL.out.box.cell 2)));go_wp2_with (go_at_call 10;refine(lwl_few HL hf).mono ?_;rintro e w2 ⟨rfl,HL2⟩);go_ret;exact⟨rfl,HL2.out.low⟩
 | true=>
  have HS:=Lib.hid (siz_of hf);obtain⟨⟨n,e1⟩,h1⟩:∃X,whyA d ps ts a b=X:=⟨_,rfl⟩;obtain⟨⟨m,e2⟩,h2⟩:∃X,whyA d ps ts b a=X:=⟨_,rfl⟩;have C1:=Lib.hid h1;have C2:=Lib.hid h2;have HF:=Lib.hid hf;clear h1 h2 hf;go_enter Tryz.func5,Tryz.ntmps5;go_upto_region 2 with(go_at_call 9;refine(lwl_head HL).mono ?_;rintro e w2 ⟨rfl,HL2⟩;(clear y0 y1 y2;have HL:=HL2;clear HL2;(have y0:=HL.out.box.cell 0;have y1:=HL.out.box.cell 1;have y2:=HL.out.box.cell 2)));go_upto_region 4 with(go_at_call 10;refine(lwl_few HL HF.out).mono ?_;rintro e w2 ⟨rfl,HL2⟩;(clear y0 y1 y2;have HL:=HL2;clear HL2;(have y0:=HL.out.box.cell 0;have y1:=HL.out.box.cell 1;have y2:=HL.out.box.cell 2)));go_upto_region 5 with(go_at_call 14;refine(lwl_why HL HS _ _ C1.out).mono ?_;rintro e w2 ⟨rfl,HL2⟩;(clear y0 y1 y2;have HL:=HL2;clear HL2;(have y0:=HL.out.box.cell 0;have y1:=HL.out.box.cell 1;have y2:=HL.out.box.cell 2)));go_upto_region 6 with(go_at_call 14;refine(lwl_why HL HS _ _ C2.out).mono ?_;rintro e w2 ⟨rfl,HL2⟩;(clear y0 y1 y2;have HL:=HL2;clear HL2;(have y0:=HL.out.box.cell 0;have y1:=HL.out.box.cell 1;have y2:=HL.out.box.cell 2)));by_cases g1:e1=0
  ·by_cases g2:e2=0
   ·subst g1 g2
    obtain⟨⟨_,hin⟩,_⟩:=whyA_in (d:=d) (ps:=ps) (ts:=ts) (a:=a) (b:=b) (by rw[C1.out]);have HIN:=Lib.hid hin;obtain⟨q1,q2,q3,q4,q5⟩:=higher_law (d:=d) (ps:=ps) (ts:=ts) (a:=a) (b:=b) (by rw[C1.out]) (by rw[C2.out]);rw[C1.out]at q1 q3 q4 q5;rw[C2.out]at q2 q3;unfold insideL at hin;simp only[Bool.and_eq_true,decide_eq_true_eq]at hin;obtain⟨⟨⟨i1,i2⟩,i3⟩,i4⟩:=hin;obtain⟨i,rfl⟩:=Int.eq_ofNat_of_zero_le i1;obtain⟨j,rfl⟩:=Int.eq_ofNat_of_zero_le i3;rw[Int.toNat_natCast,Int.toNat_natCast]at q1 q2 q3;have hi:i<ps.length:=by omega
    have hj:j<ps.length:=by omega
    rw[rankP_at hi,rankP_at hj]at q1 q2 q3;simp only[beq_iff_eq,decide_eq_decide]at q1 q2;obtain⟨b1,o1,rfl,hb1,ak,ck,ae,ce,hr1,_⟩:=SlIn.at HP.out i hi;obtain⟨_,_,ak2,ck2,ae2,ce2,hr2,_⟩:=SlIn.get HP.out j hj;have r1:=hr1 1 _ rfl;have r2:=hr2 1 _ rfl;generalize ps[i].rank=x at*
    generalize ps[j].rank=y at*
    clear hr1 hr2;go_upto_region 8 with(go_at_call 22;refine(lwl_inside HL _ _ HIN.out).mono ?_;rintro e w2 ⟨rfl,HL2⟩;(clear y0 y1 y2;have HL:=HL2;clear HL2;(have y0:=HL.out.box.cell 0;have y1:=HL.out.box.cell 1;have y2:=HL.out.box.cell 2)))
    have RG:Hid (∀w',Hid (LwL w w' w.heap.size d ps ts (.agg #[.slice ad d.length cd,.slice (some ⟨b1,o1,none⟩) ps.length cp,.slice at_ ts.length ct]) #[.slice ad d.length cd,.slice (some ⟨b1,o1,none⟩) ps.length cp,.slice at_ ts.length ct])->w'.cell? ⟨b1,o1+i*23+1,none⟩=some (.int .i64 x)/\ w'.cell? ⟨b1,o1+j*23+1,none⟩=some (.int .i64 y)):=fun w' h=>
     ⟨(h.out.low.cell (p:=⟨b1,o1+i*23+1,none⟩) hb1).trans r1,(h.out.low.cell (p:=⟨b1,o1+j*23+1,none⟩) hb1).trans r2⟩
    obtain⟨z1,z2⟩:=RG.out _ HL;clear r1 r2 HP RG HS C1 C2 HF HIN;rcases Int.lt_trichotomy x y with g | g | g
    ·obtain rfl:=q1.2 g
     obtain rfl:m=0:=by rcases q3 with q3 | q3<;>omega
     have k1:decide (x<y)=true:=decide_eq_true g;have k2:decide (y<x)=false:=decide_eq_false (by omega);have k3:(x==y)=false:=by simp;omega
     clear q1 q2 q3 q4 q5 g
     go_quiet(fail)
     go_wp2;go_ret;exact⟨by first | rfl | simp,HL.out.low.trans (World.drewN_below _ _ _)⟩
    ·subst g
     have k1:decide (x<x)=false:=decide_eq_false (by omega);have k4:(n==(1:Int))=false:=by simp;omega
     have k5:(m==(1:Int))=false:=by simp;omega
     have k6:decide ((0:Int)<=n)=true:=decide_eq_true q4;have k7:decide (n<=(3:Int))=true:=decide_eq_true q5;clear q1 q2 q3 q4 q5
     go_quiet(fail)
     go_wp2;go_ret;exact⟨by first | rfl | simp,HL.out.low.trans (World.drewN_below _ _ _)⟩
    ·obtain rfl:=q2.2 g
     obtain rfl:n=0:=by rcases q3 with q3 | q3<;>omega
     have k1:decide (x<y)=false:=decide_eq_false (by omega);have k2:decide (y<x)=true:=decide_eq_true g;have k3:(x==y)=false:=by simp;omega
     clear q1 q2 q3 q4 q5 g
     go_quiet(fail)
     go_wp2;go_ret;exact⟨by first | rfl | simp,HL.out.low.trans (World.drewN_below _ _ _)⟩
   ·have hm:m=0:=by
     have:=higher_err (d:=d) (ps:=ps) (ts:=ts) (a:=b) (b:=a) (by rw[C2.out];exact g2)
     rwa[C2.out]at this
    subst g1 hm;have k2:(e2 !=0)=true:=by simpa using g2
    go_wp2;go_ret;exact⟨by first | rfl | simp,HL.out.low⟩
  ·have hn:n=0:=by
    have:=higher_err (d:=d) (ps:=ps) (ts:=ts) (a:=a) (b:=b) (by rw[C1.out];exact g1)
    rwa[C1.out]at this
   subst hn;have k1:(e1 !=0)=true:=by simpa using g1
   go_wp2;go_ret;exact⟨by first | rfl | simp,HL.out.low⟩
end Go.Proofs.YtmafmhlfjficmaaGreatDoor
