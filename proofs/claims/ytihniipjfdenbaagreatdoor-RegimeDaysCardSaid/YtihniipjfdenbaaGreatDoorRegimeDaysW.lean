/- The walk of law33.RegimeDays. No conditions. -/
import Derived.Test.YtihniipjfdenbaaGreatDoorRgZA
namespace Go.Proofs.YtihniipjfdenbaaGreatDoor
open Go.RowKit
theorem days_facts {d:List Fa}{l:List Chg}{q:ByteArray}{o day later:Int}{c:List Int}{n e:Int}(h:govD d l q o c day=(n,e)):
  (e≠0->n=0)/\ (e=0->o<=n/\ n<=day/\ govD d l q day c day=(day,0)/\ (day<=later->later<=1000000->(afterR q day l (-1)<0\/later<afterR q day l (-1))->∃m,govD d l q o c later=(m,0)/\ (n<day->m=n)/\ (m=n\/(n=day/\ m=later)))):=by
 unfold govD at h⊢;constructor
 ·intro he
  have:=gov_err (d:=d) (l:=l) (ks:=keysD l) (q:=q) (o:=o) (day:=day) (c:=c) (by rw[h];exact he)
  rwa[h]at this
 ·intro he
  obtain⟨h1,h2,h3,h4⟩:=days_law (d:=d) (keys_of l) (q:=q) (o:=o) (day:=day) (c:=c) (by rw[h];exact he);rw[h]at h1 h2 h4;refine⟨h1,h2,h3,fun l1 l2 l3=>?_⟩;obtain⟨k1,k2,k3⟩:=h4 later l1 l2 l3;exact⟨_,Prod.ext rfl k1,k2,k3⟩
set_option maxRecDepth 100000 in
set_option maxHeartbeats 4000000 in
theorem regimeDays_any {d:List Fa}{l:List Chg}{v u:Value}{q:ByteArray}{o:Int}{c:List Int}{cv:Value}{day later:Int}(w:World)(hl:SlIn ChR 9 w w.heap.size l v)(hd:DomIn w w.heap.size d u)(_:q.size<=maxLen)(_:W64 o)(hc:IntsIn w w.heap.size c cv)(_:W64 day)(_:W64 later)(hT:TabH w.heap.size w):
  Calls Tryz.prog 6 #[v,u,.string q,.int .i64 o,cv,.int .i64 day,.int .i64 later] w fun e w'=>e=.returned (.bool true)/\ Below w.heap.size w w':=by
 have hd0:=hd;obtain⟨u0,rfl,hd1⟩:=hd;obtain⟨ad,cd,rfl,_⟩:=SlIn.shape hd1;have HL:=lwr_start (cs:=#[.slice ad d.length cd]) hl hd0 hT;obtain⟨al,cl,rfl,_⟩:=SlIn.shape hl;have HCI:=Lib.hid hc;obtain⟨ac,cc,rfl,_⟩:=SlIn.shape hc;have y0:=HL.out.box.cell 0;clear hl hd0 hd1 hT hc;cases hf:fewC l d with
 | false=>
  have HF:=Lib.hid hf;clear hf;go_enter Tryz.func6,Tryz.ntmps6;go_wp2_with (first | (go_at_call 9;refine(lwr_head HL).mono ?_;rintro e w2 ⟨rfl,HL2⟩;(clear y0;have HL:=HL2;clear HL2;have y0:=HL.out.box.cell 0)) | (go_at_call 10;refine(lwr_few HL HF.out).mono ?_;rintro e w2 ⟨rfl,HL2⟩;(clear y0;have HL:=HL2;clear HL2;have y0:=HL.out.box.cell 0)))
  (go_ret;exact⟨by first | rfl | simp,HL.out.low⟩)
 | true=>
  have HS:=Lib.hid (siz_fewC hf);have HF:=Lib.hid hf;clear hf;by_cases hcl:(60:Int)<(c.length:Int)
  ·have k0:decide ((60:Int)<(c.length:Int))=true:=decide_eq_true hcl
   clear hcl;go_enter Tryz.func6,Tryz.ntmps6;go_wp2_with (first | (go_at_call 9;refine(lwr_head HL).mono ?_;rintro e w2 ⟨rfl,HL2⟩;(clear y0;have HL:=HL2;clear HL2;have y0:=HL.out.box.cell 0)) | (go_at_call 10;refine(lwr_few HL HF.out).mono ?_;rintro e w2 ⟨rfl,HL2⟩;(clear y0;have HL:=HL2;clear HL2;have y0:=HL.out.box.cell 0)))
   (go_ret;exact⟨by first | rfl | simp,HL.out.low⟩)
  ·have k0:decide ((60:Int)<(c.length:Int))=false:=decide_eq_false hcl
   clear hcl;obtain⟨⟨n,e1⟩,h1⟩:∃X,govD d l q o c day=X:=⟨_,rfl⟩;obtain⟨hE,hO⟩:=days_facts (later:=later) h1;have C1:=Lib.hid h1;have HO:=Lib.hid hO;have HE:=Lib.hid hE;clear h1 hE hO;go_enter Tryz.func6,Tryz.ntmps6;go_upto_region 2 with(go_at_call 9;refine(lwr_head HL).mono ?_;rintro e w2 ⟨rfl,HL2⟩;(clear y0;have HL:=HL2;clear HL2;have y0:=HL.out.box.cell 0));go_upto_region 4 with(go_at_call 10;refine(lwr_few HL HF.out).mono ?_;rintro e w2 ⟨rfl,HL2⟩;(clear y0;have HL:=HL2;clear HL2;have y0:=HL.out.box.cell 0));go_upto_region 5 with(go_at_call 12;refine(lwr_gov HL HS HCI q o day C1.out).mono ?_;rintro e w2 ⟨rfl,HL2⟩;(clear y0;have HL:=HL2;clear HL2;have y0:=HL.out.box.cell 0));by_cases g1:e1=0
   ·subst g1
    obtain⟨i1,i2,i3,i4⟩:=HO.out rfl;have C2:=Lib.hid i3;have HI4:=Lib.hid i4;have j1:decide (n<o)=false:=decide_eq_false (by omega);have j2:decide (day<n)=false:=decide_eq_false (by omega);have j3:(day !=day)=false:=by simp
    clear i3 i4 HO HE;go_upto_region 8 with(go_at_call 12;refine(lwr_gov HL HS HCI q day day C2.out).mono ?_;rintro e w2 ⟨rfl,HL2⟩;(clear y0;have HL:=HL2;clear HL2;have y0:=HL.out.box.cell 0));obtain⟨aq,ha⟩:∃x,afterR q day l (-1)=x:=⟨_,rfl⟩;rw[ha]at HI4;have HA:=Lib.hid ha;clear ha;by_cases r1:later<day
    ·have s1:decide (later<day)=true:=decide_eq_true r1
     go_wp2_with (go_at_call 19;refine(lwr_after HL q day HA.out).mono ?_;rintro e w2 ⟨rfl,HL2⟩;(clear y0;have HL:=HL2;clear HL2;have y0:=HL.out.box.cell 0))
     (go_ret;exact⟨by first | rfl | simp,HL.out.low⟩)
    ·have s1:decide (later<day)=false:=decide_eq_false r1
     by_cases r2:(1000000:Int)<later
     ·have s2:decide ((1000000:Int)<later)=true:=decide_eq_true r2
      go_wp2_with (go_at_call 19;refine(lwr_after HL q day HA.out).mono ?_;rintro e w2 ⟨rfl,HL2⟩;(clear y0;have HL:=HL2;clear HL2;have y0:=HL.out.box.cell 0))
      (go_ret;exact⟨by first | rfl | simp,HL.out.low⟩)
     ·have s2:decide ((1000000:Int)<later)=false:=decide_eq_false r2
      by_cases r3:0<=aq/\ aq<=later
      ·have s3:decide (0<=aq)=true:=decide_eq_true r3.1
       have s4:decide (aq<=later)=true:=decide_eq_true r3.2;go_wp2_with (go_at_call 19;refine(lwr_after HL q day HA.out).mono ?_;rintro e w2 ⟨rfl,HL2⟩;(clear y0;have HL:=HL2;clear HL2;have y0:=HL.out.box.cell 0))
       (go_ret;exact⟨by first | rfl | simp,HL.out.low⟩)
      ·obtain⟨m,hm,h1,h2⟩:=HI4.out (by omega) (by omega) (by omega)
       have C3:=Lib.hid hm;obtain⟨ao,ha⟩:∃x,afterR q o l (-1)=x:=⟨_,rfl⟩;have HAO:=Lib.hid ha
       have h3:decide (0<=aq)=false\/(decide (0<=aq)=true/\ decide (aq<=later)=false):=by
        by_cases z:0<=aq
        ·exact .inr ⟨decide_eq_true z,decide_eq_false (by omega)⟩
        ·exact .inl (decide_eq_false z)
       clear hm ha r3 HI4;have HH1:=Lib.hid h1;have HH2:=Lib.hid h2;clear h1 h2;have hlast:∃bn bd:Bool,decide (0<=ao)=bn/\ decide (n<day)=bd:=⟨_,_,rfl,rfl⟩;obtain⟨bn,bd,f1,f2⟩:=hlast;have HBD:=Lib.hid f2;by_cases e1:m=n
       ·subst e1
        have e2:(m==m)=true:=by simp
        clear HH1 HH2;rcases h3 with s3 | ⟨s3,s4⟩<;>cases bn<;>cases bd
        all_goals
         go_wp2_with (first
          | (go_at_call_of 19 o;refine(lwr_after HL q o HAO.out).mono ?_;rintro e w2 ⟨rfl,HL2⟩;(clear y0;have HL:=HL2;clear HL2;have y0:=HL.out.box.cell 0))
          | (go_at_call 19;refine(lwr_after HL q day HA.out).mono ?_;rintro e w2 ⟨rfl,HL2⟩;(clear y0;have HL:=HL2;clear HL2;have y0:=HL.out.box.cell 0))
          | (go_at_call 12;refine(lwr_gov HL HS HCI q o later C3.out).mono ?_;rintro e w2 ⟨rfl,HL2⟩;(clear y0;have HL:=HL2;clear HL2;have y0:=HL.out.box.cell 0)))
         (go_ret;exact⟨by first | rfl | simp,HL.out.low⟩)
       ·have e2:(m==n)=false:=by simpa using e1
        obtain⟨e3,e4⟩:n=day/\ m=later:=HH2.out.elim (fun h=>absurd h e1) id;have e5:(n==day)=true:=by simpa using e3
        have e6:(m==later)=true:=by simpa using e4
        have e7:bd=false:=by rw[<-HBD.out];exact decide_eq_false (by omega)
        subst e7;clear HH1 HH2 e1 e3 e4;rcases h3 with s3 | ⟨s3,s4⟩<;>cases bn
        all_goals
         go_wp2_with (first
          | (go_at_call_of 19 o;refine(lwr_after HL q o HAO.out).mono ?_;rintro e w2 ⟨rfl,HL2⟩;(clear y0;have HL:=HL2;clear HL2;have y0:=HL.out.box.cell 0))
          | (go_at_call 19;refine(lwr_after HL q day HA.out).mono ?_;rintro e w2 ⟨rfl,HL2⟩;(clear y0;have HL:=HL2;clear HL2;have y0:=HL.out.box.cell 0))
          | (go_at_call 12;refine(lwr_gov HL HS HCI q o later C3.out).mono ?_;rintro e w2 ⟨rfl,HL2⟩;(clear y0;have HL:=HL2;clear HL2;have y0:=HL.out.box.cell 0)))
         (go_ret;exact⟨by first | rfl | simp,HL.out.low⟩)
   ·have g2:(e1 !=0)=true:=by simpa using g1
    have hn:=HE.out g1;subst hn;clear HE HO C1 g1;go_wp2
    (go_ret;exact⟨by first | rfl | simp,HL.out.low⟩)
end Go.Proofs.YtihniipjfdenbaaGreatDoor
