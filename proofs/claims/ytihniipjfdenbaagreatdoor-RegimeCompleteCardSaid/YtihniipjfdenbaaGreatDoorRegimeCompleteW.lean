/- The walk of law33.RegimeComplete. No conditions. -/
import Derived.Test.YtihniipjfdenbaaGreatDoorRgZA
namespace Go.Proofs.YtihniipjfdenbaaGreatDoor
open Go.RowKit
def HitF (kd:Int)(q:ByteArray)(o:Int)(c:List Int)(day:Int)(x:Fnd):Prop:=x.kind=kd/\ x.question=q/\ o<x.day/\ x.day<=day/\ lessL c x.cse=false
theorem fnd_next {P:Fnd->Prop}{fs:List Fnd}{k:Nat}(h:∃(j:Nat) (hj:j<fs.length),k<=j/\ P fs[j])(hk:k<fs.length)(hn:¬P fs[k]):∃(j:Nat) (hj:j<fs.length),k+1<=j/\ P fs[j]:=by
 obtain⟨j,hj,h1,h2⟩:=h;refine⟨j,hj,?_,h2⟩;rcases Nat.lt_or_ge k j with h | h
 ·exact h
 ·have:j=k:=by omega
  subst this;exact absurd h2 hn
theorem comp_facts {d:List Fa}{l:List Chg}{q:ByteArray}{o day:Int}{c:List Int}{n e:Int}{fs:List Fnd}{f:Int}(h:govD d l q o c day=(n,e))(h':anaD d l=(fs,f)):
  (e=0\/e=1\/e=11\/e=9)/\ (f=0->e=11\/e=9->∃(j:Nat) (hj:j<fs.length),0<=j/\ HitF (if e=9 then 2 else 1) q o c day fs[j]):=by
 unfold govD at h;unfold anaD at h';refine⟨by have:=gov_kinds (d:=d) (keys_of l) (q:=q) (o:=o) (day:=day) (c:=c);rwa[h]at this,fun hf he=>?_⟩;obtain⟨x,hx,h1⟩:=complete_law (d:=d) (keys_of l) (q:=q) (o:=o) (day:=day) (c:=c) (by rw[h'];exact hf) (by rw[h];exact he);rw[h']at hx;rw[h]at h1;obtain⟨j,hj,rfl⟩:=List.getElem_of_mem hx;exact⟨j,hj,Nat.zero_le _,h1⟩
set_option maxRecDepth 100000 in
set_option maxHeartbeats 4000000 in
theorem regimeComplete_any {d:List Fa}{l:List Chg}{v u:Value}{q:ByteArray}{o:Int}{c:List Int}{cv:Value}{day:Int}(w:World)(hl:SlIn ChR 9 w w.heap.size l v)(hd:DomIn w w.heap.size d u)(_:q.size<=maxLen)(_:W64 o)(hc:IntsIn w w.heap.size c cv)(_:W64 day)(hT:TabH w.heap.size w):
  Calls Tryz.prog 5 #[v,u,.string q,.int .i64 o,cv,.int .i64 day] w fun e w'=>e=.returned (.bool true)/\ Below w.heap.size w w':=by
 have hd0:=hd;obtain⟨u0,rfl,hd1⟩:=hd;obtain⟨ad,cd,rfl,_⟩:=SlIn.shape hd1;have HL:=lwr_start (cs:=#[.slice ad d.length cd]) hl hd0 hT;obtain⟨al,cl,rfl,_⟩:=SlIn.shape hl;have HCI:=Lib.hid hc;obtain⟨ac,cc,rfl,_⟩:=SlIn.shape hc;have y0:=HL.out.box.cell 0;clear hl hd0 hd1 hT hc;cases hf:fewC l d with
 | false=>
  have HF:=Lib.hid hf;clear hf;go_enter Tryz.func5,Tryz.ntmps5;go_wp2_with (first | (go_at_call 9;refine(lwr_head HL).mono ?_;rintro e w2 ⟨rfl,HL2⟩;(clear y0;have HL:=HL2;clear HL2;have y0:=HL.out.box.cell 0)) | (go_at_call 10;refine(lwr_few HL HF.out).mono ?_;rintro e w2 ⟨rfl,HL2⟩;(clear y0;have HL:=HL2;clear HL2;have y0:=HL.out.box.cell 0)))
  (go_ret;exact⟨by first | rfl | simp,HL.out.low⟩)
 | true=>
  have HS:=Lib.hid (siz_fewC hf);have HF:=Lib.hid hf;clear hf;by_cases hcl:(60:Int)<(c.length:Int)
  ·have k0:decide ((60:Int)<(c.length:Int))=true:=decide_eq_true hcl
   clear hcl;go_enter Tryz.func5,Tryz.ntmps5;go_wp2_with (first | (go_at_call 9;refine(lwr_head HL).mono ?_;rintro e w2 ⟨rfl,HL2⟩;(clear y0;have HL:=HL2;clear HL2;have y0:=HL.out.box.cell 0)) | (go_at_call 10;refine(lwr_few HL HF.out).mono ?_;rintro e w2 ⟨rfl,HL2⟩;(clear y0;have HL:=HL2;clear HL2;have y0:=HL.out.box.cell 0)))
   (go_ret;exact⟨by first | rfl | simp,HL.out.low⟩)
  ·have k0:decide ((60:Int)<(c.length:Int))=false:=decide_eq_false hcl
   clear hcl;obtain⟨⟨n,e1⟩,h1⟩:∃X,govD d l q o c day=X:=⟨_,rfl⟩;obtain⟨⟨fs,f1⟩,h2⟩:∃X,anaD d l=X:=⟨_,rfl⟩;obtain⟨hE,hO⟩:=comp_facts h1 h2;have C1:=Lib.hid h1;have C2:=Lib.hid h2;have HO:=Lib.hid hO;have HE:=Lib.hid hE;clear h1 h2 hE hO;go_enter Tryz.func5,Tryz.ntmps5;go_upto_region 2 with(go_at_call 9;refine(lwr_head HL).mono ?_;rintro e w2 ⟨rfl,HL2⟩;(clear y0;have HL:=HL2;clear HL2;have y0:=HL.out.box.cell 0));go_upto_region 4 with(go_at_call 10;refine(lwr_few HL HF.out).mono ?_;rintro e w2 ⟨rfl,HL2⟩;(clear y0;have HL:=HL2;clear HL2;have y0:=HL.out.box.cell 0));go_upto_region 5 with(go_at_call 12;refine(lwr_gov HL HS HCI q o day C1.out).mono ?_;rintro e w2 ⟨rfl,HL2⟩;(clear y0;have HL:=HL2;clear HL2;have y0:=HL.out.box.cell 0));go_upto_region 6 with(go_at_call 14;refine(lwr_ana HL HS C2.out).mono ?_;rintro e w2 ⟨af,cf,rfl,HFN,HL2⟩;(clear y0;have HL:=HL2;clear HL2;have y0:=HL.out.box.cell 0));by_cases z1:f1=0
   ·subst z1
    have hE:=HE.out;clear HE;by_cases z2:e1=11\/e1=9
    ·have hm:=HO.out rfl z2
     have HM:=Lib.hid hm;clear hm HO;obtain⟨kk,hkk⟩:∃kk:Int,(if e1=9 then(2:Int)else 1)=kk:=⟨_,rfl⟩;rw[hkk]at HM;have HKK:=Lib.hid hkk;clear hkk hE k0;obtain⟨af2,cf2,hsh,f2,f3,_⟩:=SlIn.shape HFN.out;cases hsh
     unfold maxLen at f3;have hcase:∃s:Value,s=.int .i64 kk:=⟨_,rfl⟩;rcases z2 with rfl | rfl
     all_goals
      have hkk:_=kk:=HKK.out
      first | (obtain rfl:kk=1:=hkk.symm;obtain⟨kz,hkz⟩:∃kz:Int,kz=1:=⟨_,rfl⟩) | (obtain rfl:kk=2:=hkk.symm;obtain⟨kz,hkz⟩:∃kz:Int,kz=2:=⟨_,rfl⟩)
      clear hkk HKK hcase C1 C2;go_wp2
      go_loopw [19] (fun iv wr=>∃k:Nat,k<=fs.length/\ iv=.int .i64 k/\ Hid (∃(j:Nat) (hj:j<fs.length),k<=j/\ HitF _ q o c day fs[j])/\ Hid (LwR w wr w.heap.size d l _ _ _)/\ Hid (SlIn FnR 5 wr wr.heap.size fs (.slice af fs.length cf))) (fun iv _=>fs.length-(intOf iv).toNat)
      case atStart=>exact⟨0,Nat.zero_le _,rfl,HM,HL,HFN⟩
      case round=>
       obtain⟨k,hk,rfl,HM3,HLR,HFR⟩:=hrel;clear y0;have y0:=HLR.out.box.cell 0;by_cases hlt:k<fs.length
       ·obtain⟨b,off,rfl,hbB,hx⟩:=SlIn.at HFR.out k hlt
        have HNX:=Lib.hid (fun hn=>fnd_next HM3.out hlt hn);clear HM3 HM;generalize fs[k]=x at*
        obtain⟨ac2,cc2,ai2,ci2,q0,q1,q2,q3,q4,q5,_⟩:=hx.open_;have HBN:Hid (Below wr.heap.size wr (wr.alloc (.cells #[.int .i64 x.kind,.string x.question,.int .i64 x.day,.slice ac2 x.cse.length cc2,.slice ai2 x.ids.length ci2] 40))):=(Below.refl _ _).alloc (Nat.le_refl _) _
        have HLS:Hid (Calls Tryz.prog 18 #[.slice ac c.length cc,.slice ac2 x.cse.length cc2] (wr.alloc (.cells #[.int .i64 x.kind,.string x.question,.int .i64 x.day,.slice ac2 x.cse.length cc2,.slice ai2 x.ids.length ci2] 40)) fun e w'=>e=.returned (.bool (lessL c x.cse))/\ Below ((wr.alloc (.cells #[.int .i64 x.kind,.string x.question,.int .i64 x.day,.slice ac2 x.cse.length cc2,.slice ai2 x.ids.length ci2] 40))).heap.size (wr.alloc (.cells #[.int .i64 x.kind,.string x.question,.int .i64 x.day,.slice ac2 x.cse.length cc2,.slice ai2 x.ids.length ci2] 40)) w'):=
         refLess_any c x.cse _ _ _ _ (Nat.le_refl _) (SlIn.mono (OneR.mono _) HBN.out.size (SlIn.below (OneR.kept _) HBN.out (lwr_case HLR HCI))) (SlIn.mono (OneR.mono _) HBN.out.size (SlIn.below (OneR.kept _) HBN.out q5))
        clear hx q5;cases t0:(x.kind==kz)with
        | false=>
         rw[hkz]at t0;have HM2:=Lib.hid (HNX.out (fun h=>by have:=h.1;simp[this]at t0));go_wp2
         (have HLN:=Lib.hid (HLR.out.step HBN.out);have HFN2:=Lib.hid (SlIn.mono FnR.mono HBN.out.size (HFR.out.below FnR.kept HBN.out));clear HNX;go_roundw;(case rel=>exact⟨k+1,by omega,by go_num,HM2,HLN,HFN2⟩);(case measure=>simp[intOf];omega))
        | true=>
         rw[hkz]at t0;cases t1:(x.question.toList==q.toList)with
         | false=>
          have HM2:=Lib.hid (HNX.out (fun h=>by have:=h.2.1;simp[this]at t1));go_wp2
          (have HLN:=Lib.hid (HLR.out.step HBN.out);have HFN2:=Lib.hid (SlIn.mono FnR.mono HBN.out.size (HFR.out.below FnR.kept HBN.out));clear HNX;go_roundw;(case rel=>exact⟨k+1,by omega,by go_num,HM2,HLN,HFN2⟩);(case measure=>simp[intOf];omega))
         | true=>
          cases t2:decide (o<x.day)with
          | false=>
           have HM2:=Lib.hid (HNX.out (fun h=>by have:=h.2.2.1;simp at t2;omega));go_wp2
           (have HLN:=Lib.hid (HLR.out.step HBN.out);have HFN2:=Lib.hid (SlIn.mono FnR.mono HBN.out.size (HFR.out.below FnR.kept HBN.out));clear HNX;go_roundw;(case rel=>exact⟨k+1,by omega,by go_num,HM2,HLN,HFN2⟩);(case measure=>simp[intOf];omega))
          | true=>
           cases t3:decide (x.day<=day)with
           | false=>
            have HM2:=Lib.hid (HNX.out (fun h=>by have:=h.2.2.2.1;simp at t3;omega));go_wp2
            (have HLN:=Lib.hid (HLR.out.step HBN.out);have HFN2:=Lib.hid (SlIn.mono FnR.mono HBN.out.size (HFR.out.below FnR.kept HBN.out));clear HNX;go_roundw;(case rel=>exact⟨k+1,by omega,by go_num,HM2,HLN,HFN2⟩);(case measure=>simp[intOf];omega))
           | true=>
            cases t4:lessL c x.cse with
            | true=>
             rw[t4]at HLS;have HM2:=Lib.hid (HNX.out (fun h=>by have:=h.2.2.2.2;rw[t4]at this;cases this));go_wp2_with (go_at_call 18;refine HLS.out.mono ?_;rintro e w3 ⟨rfl,hb3⟩);have HBN:=Lib.hid (HBN.out.trans (hb3.mono HBN.out.size))
             (have HLN:=Lib.hid (HLR.out.step HBN.out);have HFN2:=Lib.hid (SlIn.mono FnR.mono HBN.out.size (HFR.out.below FnR.kept HBN.out));clear HNX;go_roundw;(case rel=>exact⟨k+1,by omega,by go_num,HM2,HLN,HFN2⟩);(case measure=>simp[intOf];omega))
            | false=>
             rw[t4]at HLS;have HL3:=Lib.hid (HLR.out.step HBN.out);clear HNX;go_wp2_with (go_at_call 18;refine HLS.out.mono ?_;rintro e w3 ⟨rfl,hb3⟩);have HL:=Lib.hid (HL3.out.step hb3)
             (go_ret;exact⟨by first | rfl | simp,HL.out.low⟩)
       ·exfalso
        obtain⟨j,hj,h1,_⟩:=HM3.out;omega
    ·have z3:e1=0\/e1=1:=by omega
     clear HO z2 hE;rcases z3 with rfl | rfl
     all_goals
      go_wp2
      (go_ret;exact⟨by first | rfl | simp,HL.out.low⟩)
   ·have g2:(f1 !=0)=true:=by simpa using z1
    clear HE HO z1;go_wp2
    (go_ret;exact⟨by first | rfl | simp,HL.out.low⟩)
end Go.Proofs.YtihniipjfdenbaaGreatDoor
