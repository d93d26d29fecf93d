/- The walk of formula.formed: whether a node is well-formed. No conditions. -/
import Derived.Test.YtejbgoigkefnfaaGreatDoorAl
import Derived.Test.YtejbgoigkefnfaaGreatDoorLexB
import Derived.Deep.DeepCutAuto
set_option maxRecDepth 100000
set_option maxHeartbeats 4000000
namespace Go.Proofs.YtejbgoigkefnfaaGreatDoor
open Go.RowKit
theorem YL {w:World}{B:Nat}{v:Value}{x:Fd}{n:Nat}{ys:List Value}(h:w.ownsRow B 178 4 v (n+1) (x.tok++ys)):
  ∃g cap,v=.slice (some ⟨g,0,none⟩) (n+1) cap/\ w.cell? ⟨g,0,none⟩=some (.int .i64 x.kind)/\ w.cell? ⟨g,1,none⟩=some (.string x.text):=by
 rcases h.2 with⟨_,h0⟩ | ⟨g,cap,cur,rfl,_,hg,_,_,hs,hx⟩
 {omega}
 {refine⟨g,cap,rfl,?_,?_⟩;{(have:(cur.toList.take ((n+1)*4))[0]? =some (.int .i64 x.kind):=by rw[hx];rfl);rw[List.getElem?_take_of_lt ia]at this;simpa[World.cell?,hg]using this};{(have:(cur.toList.take ((n+1)*4))[1]? =some (.string x.text):=by rw[hx];rfl);rw[List.getElem?_take_of_lt ia]at this;simpa[World.cell?,hg]using this}}
theorem ZL (s:ByteArray)(h:20000<s.size):Hd s=false:=by
 unfold Hd;rw[Ia ia];simp
theorem TP {s:ByteArray}{B:Nat}{W:World}{xs:List Fd}{v:Value}{er:Nat}(h:cV s B W xs v er):
  (er≠0/\ Hd s=false)\/(er=0/\ (∃ao n cap,v=.slice ao n cap/\ n≠1/\ n<=5000)/\ Hd s=false)\/
  (er=0/\ ∃g cap k tx,v=.slice (some ⟨g,0,none⟩) 1 cap/\ W.cell? ⟨g,0,none⟩=some (.int .i64 (k:Nat))/\ W.cell? ⟨g,1,none⟩=some (.string tx)/\ ((((k:Int)==1)&& (tx.toList==s.toList))=Hd s)):=by
 by_cases he:er=0
 {obtain⟨B',_,hrow⟩:=h.row he;by_cases hl:xs.length=1;{obtain⟨x,rfl⟩:=List.length_eq_one_iff.1 hl;obtain⟨g,cap,rfl,c0,c1⟩:=YL (n:=0) (ys:=[]) (by simpa using hrow);refine .inr (.inr ⟨he,g,cap,x.kind,x.text,rfl,c0,c1,?_⟩);rw[Nc,ub,Ad, <-jv,Ad];constructor;{rintro⟨hk,ht⟩;obtain⟨h1,h2⟩:=h.ok x la;exact h2 ia h1 ht};{intro hn;have:=(h.name hn).2;simp only[List.cons.injEq,and_true]at this;subst this;exact⟨rfl,rfl⟩}};{refine .inr (.inl ⟨he,?_,?_⟩);{(rcases hrow.2 with⟨rfl,h0⟩ | ⟨g,cap,cur,rfl,_⟩);{exact⟨_,_,_,rfl,ia,ia⟩};{exact⟨_,_,_,rfl,hl,h.Yw⟩}};{rw[Bool.eq_false_iff];intro hn;rw[(h.name hn).2]at hl;exact hl rfl}}}
 {refine .inl ⟨he,?_⟩;rw[Bool.eq_false_iff];intro hn;exact he (h.name hn).1}
theorem kG (s:ByteArray)(hs:s.size<=20000)(w:World):Calls Tryz.prog 152 #[.string s] w fun e w'=>∃v er at_,e=.returned (.tuple #[v,.int .i64 (er:Nat),.int .i64 at_])/\ Below w.heap.size w w'/\
  ((er≠0/\ Hd s=false)\/(er=0/\ (∃ao n cap,v=.slice ao n cap/\ n≠1/\ n<=5000)/\ Hd s=false)\/
  (er=0/\ ∃g cap k tx,v=.slice (some ⟨g,0,none⟩) 1 cap/\ w'.cell? ⟨g,0,none⟩=some (.int .i64 (k:Nat))/\ w'.cell? ⟨g,1,none⟩=some (.string tx)/\ ((((k:Int)==1)&& (tx.toList==s.toList))=Hd s))):=
 (mD s hs w).mono fun _ _ ⟨_,v,er,at_,he,oB,hb⟩=>⟨v,er,at_,he,hb,TP oB⟩
theorem VP (s:ByteArray)(hs:s.size<=maxLen)(w:World):
  Calls Tryz.prog 127 #[.string s] w fun e w'=>e=.returned (.bool (Hd s))/\ Below w.heap.size w w':=by
 by_cases h0:20000<s.size
 {have HN:=da (ZL s h0);have C:=da (SI s h0 hs w);clear h0 hs;go_enter Tryz.func127,Tryz.ntmps127;go_wp2_with (go_at_call 152;refine C.out.mono ?_;rintro e w2 ⟨rfl,ud⟩);go_ret;exact⟨Oa HN.out.symm,ud⟩}
 ·have C:=da (kG s ia w)
  clear h0 hs;go_enter Tryz.func127,Tryz.ntmps127;go_wp2_with (fail);refine C.out.mono ?_;rintro e w2 ⟨v,er,at_,rfl,ud,(⟨he,hn⟩ | ⟨rfl,⟨ao,n,cap,rfl,V4,hn5⟩,hn⟩ | ⟨rfl,g,cap,k,tx,rfl,c0,c1,hn⟩)⟩
  {have he':((er:Int)==0)=false:=beq_eq_false_iff_ne.2 ia;have HN:=da hn;clear he hn;go_wp2;go_ret;exact⟨Oa (by rw[HN.out]),ud⟩}
  {have hn':((n:Int)==1)=false:=beq_eq_false_iff_ne.2 ia;have HN:=da hn;clear hn V4;go_wp2;go_ret;exact⟨Oa (by rw[HN.out]),ud⟩}
  ·cases a1:((k:Int)==1)<;>cases a2:(tx.toList==s.toList)
   all_goals
    rw[a1,a2]at hn;have HN:=da hn;clear hn;go_wp2;go_ret;exact⟨Oa (by rw[<-HN.out];rfl),ud⟩
def eu (f:Fo):Bool:=((f.op !=3)&& ((f.cmp !=0) || (f.n !=0))) || (((f.op !=3)&& (f.op !=4))&& !f.name.toList.isEmpty)
def Gg (f:Fo):Bool:=
 if eu f then false
 else if f.op=1\/f.op=2 then decide (f.kids.length=0)
 else if f.op=3 then((decide (f.kids.length=0)&& Hd f.name)&& decide (1<=f.cmp))&& decide (f.cmp<=6)
 else if f.op=4 then decide (f.kids.length=0)&& Hd f.name
 else if f.op=5 then decide (f.kids.length=1)
 else if f.op=6\/f.op=7 then decide (2<=f.kids.length)
 else false
theorem jH (f:Fo)(v:Value)(w:World)(B:Nat)(hf:f.In w B v):
  Calls Tryz.prog 101 #[v] w fun e w'=>e=.returned (.bool (Gg f))/\ Below w.heap.size w w':=by
 obtain⟨op,nm,c,n,ks⟩:=f;obtain⟨ao,cap,rfl,h1,h2,h3,h4,h5,h6,_⟩:=hf;unfold maxLen at h6
 have HR:Hid (Gg (.mk op nm c n ks)=if eu (.mk op nm c n ks)then false
  else if op=1\/op=2 then decide (ks.length=0)
  else if op=3 then((decide (ks.length=0)&& Hd nm)&& decide (1<=c))&& decide (c<=6)
  else if op=4 then decide (ks.length=0)&& Hd nm
  else if op=5 then decide (ks.length=1)
  else if op=6\/op=7 then decide (2<=ks.length)
  else false):=rfl
 have Ff:Below w.heap.size w (w.alloc (.cells #[.int .i64 op,.string nm,.int .i64 c,.int .i64 n,.slice ao ks.length cap] 24)):=(za _ _).alloc (ja _) _;generalize Gg (.mk op nm c n ks)=R at*
 have HB:=da Ff;clear h1 h2 h3 Ff;go_enter Tryz.func101,Tryz.ntmps101;go_upto_region 2 with(fail)
 go_cut[34] (fun s34 wx=>s34=.bool (eu (.mk op nm c n ks))/\ wx=w.alloc (.cells #[.int .i64 op,.string nm,.int .i64 c,.int .i64 n,.slice ao ks.length cap] 24))
 case first=>((cases a1:(op !=3)<;>cases a2:(op !=4)<;>cases a3:(c !=0)<;>cases a4:(n !=0)<;>cases a5:nm.toList.isEmpty);all_goals(go_wp2;go_meet;exact⟨by simp[eu,Fo.op,Fo.cmp,Fo.n,Fo.name,a1,a2,a3,a4,a5],rfl⟩))
 case rest=>
  obtain⟨rfl,rfl⟩:=hcut;cases TI:eu (.mk op nm c n ks)with
  | true=>{have HS:=da (show R=false by rw[HR.out,TI];rfl);clear TI;go_wp2;go_ret;exact⟨Oa HS.out.symm,HB.out⟩}
  | false=>
   rw[TI,Aa pa]at HR;clear TI
   have hk:(((ks.length:Int)==0)=true/\ decide (ks.length=0)=true/\ ((ks.length:Int)==1)=false/\ decide (ks.length=1)=false/\ decide ((2:Int)<=ks.length)=false/\ decide (2<=ks.length)=false)\/
     (((ks.length:Int)==0)=false/\ decide (ks.length=0)=false/\ ((ks.length:Int)==1)=true/\ decide (ks.length=1)=true/\ decide ((2:Int)<=ks.length)=false/\ decide (2<=ks.length)=false)\/
     (((ks.length:Int)==0)=false/\ decide (ks.length=0)=false/\ ((ks.length:Int)==1)=false/\ decide (ks.length=1)=false/\ decide ((2:Int)<=ks.length)=true/\ decide (2<=ks.length)=true):=by
    rcases(by omega:ks.length=0\/ks.length=1\/2<=ks.length)with h | h | h
    {left;simp[h]}
    {right;left;simp[h]}
    {right;right;exact⟨beq_eq_false_iff_ne.2 ia,Ia ia,beq_eq_false_iff_ne.2 ia,Ia ia,Ma ia,Ma ia⟩}
   have C:=da (fun w'=>VP nm h4 w');generalize decide (ks.length=0)=k0 at*
   generalize decide (ks.length=1)=k1 at*
   generalize decide (2<=ks.length)=k2 at*
   by_cases o1:op=1
   ·subst o1
    have HS:=da (show R=k0 by rw[HR.out];rfl);clear HR;rcases hk with⟨d1,e1,d2,e2,d3,e3⟩ | ⟨d1,e1,d2,e2,d3,e3⟩ | ⟨d1,e1,d2,e2,d3,e3⟩
    all_goals
     subst e1;go_wp2;go_ret;exact⟨Oa HS.out.symm,HB.out⟩
   by_cases o2:op=2
   ·subst o2
    have HS:=da (show R=k0 by rw[HR.out];rfl);clear HR;rcases hk with⟨d1,e1,d2,e2,d3,e3⟩ | ⟨d1,e1,d2,e2,d3,e3⟩ | ⟨d1,e1,d2,e2,d3,e3⟩
    all_goals
     subst e1;go_wp2;go_ret;exact⟨Oa HS.out.symm,HB.out⟩
   by_cases o3:op=3
   ·subst o3
    have HS:=da (show R=(((k0&& Hd nm)&& decide (1<=c))&& decide (c<=6)) by rw[HR.out];rfl);clear HR;cases a1:Hd nm<;>cases a2:decide (1<=c)<;>cases a3:decide (c<=6)<;>rcases hk with⟨d1,e1,d2,e2,d3,e3⟩ | ⟨d1,e1,d2,e2,d3,e3⟩ | ⟨d1,e1,d2,e2,d3,e3⟩
    all_goals
     subst e1;rw[a1,a2,a3]at HS;rw[a1]at C;clear a1;go_wp2_with (go_at_call 127;refine(C.out _).mono ?_;rintro e w2 ⟨rfl,ud⟩;have q2:=(ud.cell (p:=⟨w.heap.size,2,none⟩) la).trans (show _=some (Value.int .i64 c) by rw[World.cell?_alloc_at _ _ _ _ rfl];rfl));go_ret
     first
     | exact⟨Oa HS.out.symm,HB.out⟩
     | exact⟨Oa HS.out.symm,HB.out.trans (ud.mono la)⟩
   by_cases o4:op=4
   ·subst o4
    have HS:=da (show R=(k0&& Hd nm) by rw[HR.out];rfl);clear HR;cases a1:Hd nm<;>rcases hk with⟨d1,e1,d2,e2,d3,e3⟩ | ⟨d1,e1,d2,e2,d3,e3⟩ | ⟨d1,e1,d2,e2,d3,e3⟩
    all_goals
     subst e1;rw[a1]at HS C;clear a1;go_wp2_with (go_at_call 127;refine(C.out _).mono ?_;rintro e w2 ⟨rfl,ud⟩);go_ret
     first
     | exact⟨Oa HS.out.symm,HB.out⟩
     | exact⟨Oa HS.out.symm,HB.out.trans (ud.mono la)⟩
   by_cases o5:op=5
   ·subst o5
    have HS:=da (show R=k1 by rw[HR.out];rfl);clear HR;rcases hk with⟨d1,e1,d2,e2,d3,e3⟩ | ⟨d1,e1,d2,e2,d3,e3⟩ | ⟨d1,e1,d2,e2,d3,e3⟩
    all_goals
     subst e2;go_wp2;go_ret;exact⟨Oa HS.out.symm,HB.out⟩
   by_cases o6:op=6
   ·subst o6
    have HS:=da (show R=k2 by rw[HR.out];rfl);clear HR;rcases hk with⟨d1,e1,d2,e2,d3,e3⟩ | ⟨d1,e1,d2,e2,d3,e3⟩ | ⟨d1,e1,d2,e2,d3,e3⟩
    all_goals
     subst e3;go_wp2;go_ret;exact⟨Oa HS.out.symm,HB.out⟩
   by_cases o7:op=7
   ·subst o7
    have HS:=da (show R=k2 by rw[HR.out];rfl);clear HR;rcases hk with⟨d1,e1,d2,e2,d3,e3⟩ | ⟨d1,e1,d2,e2,d3,e3⟩ | ⟨d1,e1,d2,e2,d3,e3⟩
    all_goals
     subst e3;go_wp2;go_ret;exact⟨Oa HS.out.symm,HB.out⟩
   have HS:=da (show R=false by rw[HR.out,Aa (by simp[o1,o2]),Aa o3,Aa o4,Aa o5,Aa (by simp[o6,o7])]);have p1:(op==1)=false:=by simpa using o1
   have p2:(op==2)=false:=by simpa using o2
   have p3:(op==3)=false:=by simpa using o3
   have p4:(op==4)=false:=by simpa using o4
   have p5:(op==5)=false:=by simpa using o5
   have p6:(op==6)=false:=by simpa using o6
   have p7:(op==7)=false:=by simpa using o7
   clear HR hk o1 o2 o3 o4 o5 o6 o7;go_wp2;go_ret;exact⟨Oa HS.out.symm,HB.out⟩
end Go.Proofs.YtejbgoigkefnfaaGreatDoor
