/- The walk of law15.RankOrder. No conditions. -/
import Derived.Test.YtmafmhlfjficmaaGreatDoorRkLA
namespace Go.Proofs.YtmafmhlfjficmaaGreatDoor
open Go.RowKit
set_option maxRecDepth 100000 in
set_option maxHeartbeats 4000000 in
theorem rankOrder_any {d:List Fa}{ps:List Pv}{ts:List Int}{v:Value}(w:World)(hl:LawT w w.heap.size d ps ts v){a b c:Int}(_:W64 a)(_:W64 b)(_:W64 c)(hT:TabH w.heap.size w):
  Calls Tryz.prog 4 #[v,.int .i64 a,.int .i64 b,.int .i64 c] w fun e w'=>e=.returned (.bool true)/\ Below w.heap.size w w':=by
 have hl0:=hl;obtain⟨u1,u2,u3,rfl,hd,hp,ht⟩:=hl;obtain⟨ad,cd,rfl,_⟩:=SlIn.shape hd;obtain⟨ap,cp,rfl,_⟩:=SlIn.shape hp;obtain⟨at_,ct,rfl,_⟩:=SlIn.shape ht;have HL:=lwl_start (cs:=#[.slice ad d.length cd,.slice ap ps.length cp,.slice at_ ts.length ct]) hl0 hT;have y0:=HL.out.box.cell 0;have y1:=HL.out.box.cell 1;have y2:=HL.out.box.cell 2;clear hl0 hd hp ht hT;cases hf:fewL d ps 8 with
 | false=>
  go_enter Tryz.func4,Tryz.ntmps4;go_upto_region 2 with(go_at_call 9;refine(lwl_head HL).mono ?_;rintro e w2 ⟨rfl,HL2⟩;(clear y0 y1 y2;have HL:=HL2;clear HL2;(have y0:=HL.out.box.cell 0;have y1:=HL.out.box.cell 1;have y2:=HL.out.box.cell 2)));go_wp2_with (go_at_call 10;refine(lwl_few HL hf).mono ?_;rintro e w2 ⟨rfl,HL2⟩);go_ret;exact⟨rfl,HL2.out.low⟩
 | true=>
  have HS:=Lib.hid (siz_of hf);obtain⟨⟨x1,e1⟩,h1⟩:∃X,beatsA d ps ts a b=X:=⟨_,rfl⟩;obtain⟨⟨x2,e2⟩,h2⟩:∃X,beatsA d ps ts b c=X:=⟨_,rfl⟩;obtain⟨⟨x3,e3⟩,h3⟩:∃X,beatsA d ps ts a c=X:=⟨_,rfl⟩;obtain⟨⟨x4,e4⟩,h4⟩:∃X,beatsA d ps ts a a=X:=⟨_,rfl⟩
  have HO:Hid (e1=0->e2=0->e3=0->e4=0->x4=false/\ (beatF d ps ts a b&& beatF d ps ts b a)=false/\ (!beatF d ps ts a b || !beatF d ps ts b c || beatF d ps ts a c)=true):=fun q1 q2 q3 q4=>by
   have:=order_law (d:=d) (ps:=ps) (ts:=ts) (a:=a) (b:=b) (c:=c) (by rw[h1];exact q1) (by rw[h2];exact q2) (by rw[h3];exact q3) (by rw[h4];exact q4)
   rwa[h4]at this
  have C1:=Lib.hid h1;have C2:=Lib.hid h2;have C3:=Lib.hid h3;have C4:=Lib.hid h4;obtain⟨pab,hab⟩:∃x,beatF d ps ts a b=x:=⟨_,rfl⟩;obtain⟨pba,hba⟩:∃x,beatF d ps ts b a=x:=⟨_,rfl⟩;obtain⟨pbc,hbc⟩:∃x,beatF d ps ts b c=x:=⟨_,rfl⟩;obtain⟨pac,hac⟩:∃x,beatF d ps ts a c=x:=⟨_,rfl⟩;rw[hab,hba,hbc,hac]at HO;have HAB:=Lib.hid hab;have HBA:=Lib.hid hba;have HBC:=Lib.hid hbc;have HAC:=Lib.hid hac;have HF:=Lib.hid hf;clear h1 h2 h3 h4 hab hba hbc hac hf;go_enter Tryz.func4,Tryz.ntmps4;go_upto_region 2 with(go_at_call 9;refine(lwl_head HL).mono ?_;rintro e w2 ⟨rfl,HL2⟩;(clear y0 y1 y2;have HL:=HL2;clear HL2;(have y0:=HL.out.box.cell 0;have y1:=HL.out.box.cell 1;have y2:=HL.out.box.cell 2)));go_upto_region 4 with(go_at_call 10;refine(lwl_few HL HF.out).mono ?_;rintro e w2 ⟨rfl,HL2⟩;(clear y0 y1 y2;have HL:=HL2;clear HL2;(have y0:=HL.out.box.cell 0;have y1:=HL.out.box.cell 1;have y2:=HL.out.box.cell 2)));go_upto_region 5 with(go_at_call 16;refine(lwl_beats HL HS _ _ C1.out).mono ?_;rintro e w2 ⟨rfl,HL2⟩;(clear y0 y1 y2;have HL:=HL2;clear HL2;(have y0:=HL.out.box.cell 0;have y1:=HL.out.box.cell 1;have y2:=HL.out.box.cell 2)));go_upto_region 6 with(go_at_call 16;refine(lwl_beats HL HS _ _ C2.out).mono ?_;rintro e w2 ⟨rfl,HL2⟩;(clear y0 y1 y2;have HL:=HL2;clear HL2;(have y0:=HL.out.box.cell 0;have y1:=HL.out.box.cell 1;have y2:=HL.out.box.cell 2)));go_upto_region 7 with(go_at_call 16;refine(lwl_beats HL HS _ _ C3.out).mono ?_;rintro e w2 ⟨rfl,HL2⟩;(clear y0 y1 y2;have HL:=HL2;clear HL2;(have y0:=HL.out.box.cell 0;have y1:=HL.out.box.cell 1;have y2:=HL.out.box.cell 2)));go_upto_region 8 with(go_at_call 16;refine(lwl_beats HL HS _ _ C4.out).mono ?_;rintro e w2 ⟨rfl,HL2⟩;(clear y0 y1 y2;have HL:=HL2;clear HL2;(have y0:=HL.out.box.cell 0;have y1:=HL.out.box.cell 1;have y2:=HL.out.box.cell 2)));by_cases g1:e1=0
  ·by_cases g2:e2=0
   ·by_cases g3:e3=0
    ·by_cases g4:e4=0
     ·obtain⟨q1,q2,q3⟩:=HO.out g1 g2 g3 g4
      subst g1 g2 g3 g4 q1;have hab:=HAB.out;have hba:=HBA.out;have hbc:=HBC.out;have hac:=HAC.out;clear HAB HBA HBC HAC HO C1 C2 C3 C4;cases pab with
      | false=>
       clear q2 q3;go_wp2_with (go_at_call 21;refine(lwl_beatF HL HS _ _ rfl).mono ?_;rintro e w2 ⟨rfl,HL2⟩;(clear y0 y1 y2;have HL:=HL2;clear HL2;(have y0:=HL.out.box.cell 0;have y1:=HL.out.box.cell 1;have y2:=HL.out.box.cell 2)));go_ret;exact⟨rfl,HL.out.low⟩
      | true=>
       cases pba with
       | true=>cases q2
       | false=>
        cases pbc with
        | false=>
         clear q2 q3;go_wp2_with (go_at_call 21;refine(lwl_beatF HL HS _ _ rfl).mono ?_;rintro e w2 ⟨rfl,HL2⟩;(clear y0 y1 y2;have HL:=HL2;clear HL2;(have y0:=HL.out.box.cell 0;have y1:=HL.out.box.cell 1;have y2:=HL.out.box.cell 2)));go_ret;exact⟨rfl,HL.out.low⟩
        | true=>
         cases pac with
         | false=>cases q3
         | true=>
          clear q2 q3;go_wp2_with (go_at_call 21;refine(lwl_beatF HL HS _ _ rfl).mono ?_;rintro e w2 ⟨rfl,HL2⟩;(clear y0 y1 y2;have HL:=HL2;clear HL2;(have y0:=HL.out.box.cell 0;have y1:=HL.out.box.cell 1;have y2:=HL.out.box.cell 2)));go_ret;exact⟨rfl,HL.out.low⟩
     ·subst g1 g2 g3
      have k4:(e4 !=0)=true:=by simpa using g4
      clear HO;go_wp2;go_ret;exact⟨rfl,HL.out.low⟩
    ·subst g1 g2
     have k3:(e3 !=0)=true:=by simpa using g3
     clear HO;go_wp2;go_ret;exact⟨rfl,HL.out.low⟩
   ·subst g1
    have k2:(e2 !=0)=true:=by simpa using g2
    clear HO;go_wp2;go_ret;exact⟨rfl,HL.out.low⟩
  ·have k1:(e1 !=0)=true:=by simpa using g1
   clear HO;go_wp2;go_ret;exact⟨rfl,HL.out.low⟩
end Go.Proofs.YtmafmhlfjficmaaGreatDoor
