/- The walk of formula.formed: whether a node is well-formed. No conditions. -/
import Derived.Test.YtihniipjfdenbaaGreatDoorLexB
import Derived.Deep.DeepCutAuto
set_option maxRecDepth 100000
set_option maxHeartbeats 4000000
namespace Go.Proofs.YtihniipjfdenbaaGreatDoor
open Go.RowKit
theorem tok_cells {w:World}{B:Nat}{v:Value}{x:Fd}{n:Nat}{ys:List Value}(h:w.ownsRow B 225 4 v (n+1) (x.tok++ys)):
  ∃g cap,v=.slice (some ⟨g,0,none⟩) (n+1) cap/\ w.cell? ⟨g,0,none⟩=some (.int .i64 x.kind)/\ w.cell? ⟨g,1,none⟩=some (.string x.text):=by
 rcases h.2 with⟨_,h0⟩ | ⟨g,cap,cur,rfl,_,hg,_,_,hs,hx⟩
 {omega}
 {refine⟨g,cap,rfl,?_,?_⟩;{(have:(cur.toList.take ((n+1)*4))[0]? =some (.int .i64 x.kind):=by rw[hx];rfl);rw[List.getElem?_take_of_lt (by omega)]at this;simpa[World.cell?,hg]using this};{(have:(cur.toList.take ((n+1)*4))[1]? =some (.string x.text):=by rw[hx];rfl);rw[List.getElem?_take_of_lt (by omega)]at this;simpa[World.cell?,hg]using this}}
theorem nameB_big (s:ByteArray)(h:20000<s.size):nameB s=false:=by
 unfold nameB;rw[decide_eq_false (by omega)];simp
theorem lex_name {s:ByteArray}{B:Nat}{W:World}{xs:List Fd}{v:Value}{er:Nat}(h:LexOk s B W xs v er):
  (er≠0/\ nameB s=false)\/(er=0/\ (∃ao n cap,v=.slice ao n cap/\ n≠1/\ n<=5000)/\ nameB s=false)\/
  (er=0/\ ∃g cap k tx,v=.slice (some ⟨g,0,none⟩) 1 cap/\ W.cell? ⟨g,0,none⟩=some (.int .i64 (k:Nat))/\ W.cell? ⟨g,1,none⟩=some (.string tx)/\ ((((k:Int)==1)&& (tx.toList==s.toList))=nameB s)):=by
 by_cases he:er=0
 {obtain⟨B',_,hrow⟩:=h.row he;by_cases hl:xs.length=1;{obtain⟨x,rfl⟩:=List.length_eq_one_iff.1 hl;obtain⟨g,cap,rfl,c0,c1⟩:=tok_cells (n:=0) (ys:=[]) (by simpa using hrow);refine .inr (.inr ⟨he,g,cap,x.kind,x.text,rfl,c0,c1,?_⟩);rw[Bool.eq_iff_iff,Bool.and_eq_true,beq_iff_eq, <-eqB_eq,beq_iff_eq];constructor;{rintro⟨hk,ht⟩;obtain⟨h1,h2⟩:=h.ok x (by simp);exact h2 (by omega) h1 ht};{intro hn;have:=(h.name hn).2;simp only[List.cons.injEq,and_true]at this;subst this;exact⟨rfl,rfl⟩}};{refine .inr (.inl ⟨he,?_,?_⟩);{(rcases hrow.2 with⟨rfl,h0⟩ | ⟨g,cap,cur,rfl,_⟩);{exact⟨_,_,_,rfl,by omega,by omega⟩};{exact⟨_,_,_,rfl,hl,h.few⟩}};{rw[Bool.eq_false_iff];intro hn;rw[(h.name hn).2]at hl;exact hl rfl}}}
 {refine .inl ⟨he,?_⟩;rw[Bool.eq_false_iff];intro hn;exact he (h.name hn).1}
theorem lexName_any (s:ByteArray)(hs:s.size<=20000)(w:World):Calls Tryz.prog 201 #[.string s] w fun e w'=>∃v er at_,e=.returned (.tuple #[v,.int .i64 (er:Nat),.int .i64 at_])/\ Below w.heap.size w w'/\
  ((er≠0/\ nameB s=false)\/(er=0/\ (∃ao n cap,v=.slice ao n cap/\ n≠1/\ n<=5000)/\ nameB s=false)\/
  (er=0/\ ∃g cap k tx,v=.slice (some ⟨g,0,none⟩) 1 cap/\ w'.cell? ⟨g,0,none⟩=some (.int .i64 (k:Nat))/\ w'.cell? ⟨g,1,none⟩=some (.string tx)/\ ((((k:Int)==1)&& (tx.toList==s.toList))=nameB s))):=
 (lexSmall_any s hs w).mono fun _ _ ⟨_,v,er,at_,he,hok,hb⟩=>⟨v,er,at_,he,hb,lex_name hok⟩
theorem name_any (s:ByteArray)(hs:s.size<=maxLen)(w:World):
  Calls Tryz.prog 174 #[.string s] w fun e w'=>e=.returned (.bool (nameB s))/\ Below w.heap.size w w':=by
 by_cases h0:20000<s.size
 {have HN:=Lib.hid (nameB_big s h0);have C:=Lib.hid (lexBig_any s h0 hs w);clear h0 hs;go_enter Tryz.func174,Tryz.ntmps174;go_wp2_with (go_at_call 201;refine C.out.mono ?_;rintro e w2 ⟨rfl,hb2⟩);go_ret;exact⟨ret_bool HN.out.symm,hb2⟩}
 ·have C:=Lib.hid (lexName_any s (by omega) w)
  clear h0 hs;go_enter Tryz.func174,Tryz.ntmps174;go_wp2_with (fail);refine C.out.mono ?_;rintro e w2 ⟨v,er,at_,rfl,hb2,(⟨he,hn⟩ | ⟨rfl,⟨ao,n,cap,rfl,hn1,hn5⟩,hn⟩ | ⟨rfl,g,cap,k,tx,rfl,c0,c1,hn⟩)⟩
  {have he':((er:Int)==0)=false:=beq_eq_false_iff_ne.2 (by omega);have HN:=Lib.hid hn;clear he hn;go_wp2;go_ret;exact⟨ret_bool (by rw[HN.out]),hb2⟩}
  {have hn':((n:Int)==1)=false:=beq_eq_false_iff_ne.2 (by omega);have HN:=Lib.hid hn;clear hn hn1;go_wp2;go_ret;exact⟨ret_bool (by rw[HN.out]),hb2⟩}
  ·cases a1:((k:Int)==1)<;>cases a2:(tx.toList==s.toList)
   all_goals
    rw[a1,a2]at hn;have HN:=Lib.hid hn;clear hn;go_wp2;go_ret;exact⟨ret_bool (by rw[<-HN.out];rfl),hb2⟩
def badB (f:Fo):Bool:=((f.op !=3)&& ((f.cmp !=0) || (f.n !=0))) || (((f.op !=3)&& (f.op !=4))&& !f.name.toList.isEmpty)
def formedB (f:Fo):Bool:=
 if badB f then false
 else if f.op=1\/f.op=2 then decide (f.kids.length=0)
 else if f.op=3 then((decide (f.kids.length=0)&& nameB f.name)&& decide (1<=f.cmp))&& decide (f.cmp<=6)
 else if f.op=4 then decide (f.kids.length=0)&& nameB f.name
 else if f.op=5 then decide (f.kids.length=1)
 else if f.op=6\/f.op=7 then decide (2<=f.kids.length)
 else false
theorem formed_any (f:Fo)(v:Value)(w:World)(B:Nat)(hf:f.In w B v):
  Calls Tryz.prog 129 #[v] w fun e w'=>e=.returned (.bool (formedB f))/\ Below w.heap.size w w':=by
 obtain⟨op,nm,c,n,ks⟩:=f;obtain⟨ao,cap,rfl,h1,h2,h3,h4,h5,h6,_⟩:=hf;unfold maxLen at h6
 have HR:Hid (formedB (.mk op nm c n ks)=if badB (.mk op nm c n ks)then false
  else if op=1\/op=2 then decide (ks.length=0)
  else if op=3 then((decide (ks.length=0)&& nameB nm)&& decide (1<=c))&& decide (c<=6)
  else if op=4 then decide (ks.length=0)&& nameB nm
  else if op=5 then decide (ks.length=1)
  else if op=6\/op=7 then decide (2<=ks.length)
  else false):=rfl
 have hb1:Below w.heap.size w (w.alloc (.cells #[.int .i64 op,.string nm,.int .i64 c,.int .i64 n,.slice ao ks.length cap] 47)):=(Below.refl _ _).alloc (Nat.le_refl _) _;generalize formedB (.mk op nm c n ks)=R at*
 have HB:=Lib.hid hb1;clear h1 h2 h3 hb1;go_enter Tryz.func129,Tryz.ntmps129;go_upto_region 2 with(fail)
 go_cut[34] (fun s34 wx=>s34=.bool (badB (.mk op nm c n ks))/\ wx=w.alloc (.cells #[.int .i64 op,.string nm,.int .i64 c,.int .i64 n,.slice ao ks.length cap] 47))
 case first=>((cases a1:(op !=3)<;>cases a2:(op !=4)<;>cases a3:(c !=0)<;>cases a4:(n !=0)<;>cases a5:nm.toList.isEmpty);all_goals(go_wp2;go_meet;exact⟨by simp[badB,Fo.op,Fo.cmp,Fo.n,Fo.name,a1,a2,a3,a4,a5],rfl⟩))
 case rest=>
  obtain⟨rfl,rfl⟩:=hcut;cases hbad:badB (.mk op nm c n ks)with
  | true=>{have HS:=Lib.hid (show R=false by rw[HR.out,hbad];rfl);clear hbad;go_wp2;go_ret;exact⟨ret_bool HS.out.symm,HB.out⟩}
  | false=>
   rw[hbad,if_neg (by decide)]at HR;clear hbad
   have hk:(((ks.length:Int)==0)=true/\ decide (ks.length=0)=true/\ ((ks.length:Int)==1)=false/\ decide (ks.length=1)=false/\ decide ((2:Int)<=ks.length)=false/\ decide (2<=ks.length)=false)\/
     (((ks.length:Int)==0)=false/\ decide (ks.length=0)=false/\ ((ks.length:Int)==1)=true/\ decide (ks.length=1)=true/\ decide ((2:Int)<=ks.length)=false/\ decide (2<=ks.length)=false)\/
     (((ks.length:Int)==0)=false/\ decide (ks.length=0)=false/\ ((ks.length:Int)==1)=false/\ decide (ks.length=1)=false/\ decide ((2:Int)<=ks.length)=true/\ decide (2<=ks.length)=true):=by
    rcases(by omega:ks.length=0\/ks.length=1\/2<=ks.length)with h | h | h
    {left;simp[h]}
    {right;left;simp[h]}
    {right;right;exact⟨beq_eq_false_iff_ne.2 (by omega),decide_eq_false (by omega),beq_eq_false_iff_ne.2 (by omega),decide_eq_false (by omega),decide_eq_true (by omega),decide_eq_true (by omega)⟩}
   have C:=Lib.hid (fun w'=>name_any nm h4 w');generalize decide (ks.length=0)=k0 at*
   generalize decide (ks.length=1)=k1 at*
   generalize decide (2<=ks.length)=k2 at*
   by_cases o1:op=1
   ·subst o1
    have HS:=Lib.hid (show R=k0 by rw[HR.out];rfl);clear HR;rcases hk with⟨d1,e1,d2,e2,d3,e3⟩ | ⟨d1,e1,d2,e2,d3,e3⟩ | ⟨d1,e1,d2,e2,d3,e3⟩
    all_goals
     subst e1;go_wp2;go_ret;exact⟨ret_bool HS.out.symm,HB.out⟩
   by_cases o2:op=2
   ·subst o2
    have HS:=Lib.hid (show R=k0 by rw[HR.out];rfl);clear HR;rcases hk with⟨d1,e1,d2,e2,d3,e3⟩ | ⟨d1,e1,d2,e2,d3,e3⟩ | ⟨d1,e1,d2,e2,d3,e3⟩
    all_goals
     subst e1;go_wp2;go_ret;exact⟨ret_bool HS.out.symm,HB.out⟩
   by_cases o3:op=3
   ·subst o3
    have HS:=Lib.hid (show R=(((k0&& nameB nm)&& decide (1<=c))&& decide (c<=6)) by rw[HR.out];rfl);clear HR;cases a1:nameB nm<;>cases a2:decide (1<=c)<;>cases a3:decide (c<=6)<;>rcases hk with⟨d1,e1,d2,e2,d3,e3⟩ | ⟨d1,e1,d2,e2,d3,e3⟩ | ⟨d1,e1,d2,e2,d3,e3⟩
    all_goals
     subst e1;rw[a1,a2,a3]at HS;rw[a1]at C;clear a1;go_wp2_with (go_at_call 174;refine(C.out _).mono ?_;rintro e w2 ⟨rfl,hb2⟩;have q2:=(hb2.cell (p:=⟨w.heap.size,2,none⟩) (by simp)).trans (show _=some (Value.int .i64 c) by rw[World.cell?_alloc_at _ _ _ _ rfl];rfl));go_ret
     first
     | exact⟨ret_bool HS.out.symm,HB.out⟩
     | exact⟨ret_bool HS.out.symm,HB.out.trans (hb2.mono (by simp))⟩
   by_cases o4:op=4
   ·subst o4
    have HS:=Lib.hid (show R=(k0&& nameB nm) by rw[HR.out];rfl);clear HR;cases a1:nameB nm<;>rcases hk with⟨d1,e1,d2,e2,d3,e3⟩ | ⟨d1,e1,d2,e2,d3,e3⟩ | ⟨d1,e1,d2,e2,d3,e3⟩
    all_goals
     subst e1;rw[a1]at HS C;clear a1;go_wp2_with (go_at_call 174;refine(C.out _).mono ?_;rintro e w2 ⟨rfl,hb2⟩);go_ret
     first
     | exact⟨ret_bool HS.out.symm,HB.out⟩
     | exact⟨ret_bool HS.out.symm,HB.out.trans (hb2.mono (by simp))⟩
   by_cases o5:op=5
   ·subst o5
    have HS:=Lib.hid (show R=k1 by rw[HR.out];rfl);clear HR;rcases hk with⟨d1,e1,d2,e2,d3,e3⟩ | ⟨d1,e1,d2,e2,d3,e3⟩ | ⟨d1,e1,d2,e2,d3,e3⟩
    all_goals
     subst e2;go_wp2;go_ret;exact⟨ret_bool HS.out.symm,HB.out⟩
   by_cases o6:op=6
   ·subst o6
    have HS:=Lib.hid (show R=k2 by rw[HR.out];rfl);clear HR;rcases hk with⟨d1,e1,d2,e2,d3,e3⟩ | ⟨d1,e1,d2,e2,d3,e3⟩ | ⟨d1,e1,d2,e2,d3,e3⟩
    all_goals
     subst e3;go_wp2;go_ret;exact⟨ret_bool HS.out.symm,HB.out⟩
   by_cases o7:op=7
   ·subst o7
    have HS:=Lib.hid (show R=k2 by rw[HR.out];rfl);clear HR;rcases hk with⟨d1,e1,d2,e2,d3,e3⟩ | ⟨d1,e1,d2,e2,d3,e3⟩ | ⟨d1,e1,d2,e2,d3,e3⟩
    all_goals
     subst e3;go_wp2;go_ret;exact⟨ret_bool HS.out.symm,HB.out⟩
   have HS:=Lib.hid (show R=false by rw[HR.out,if_neg (by simp[o1,o2]),if_neg o3,if_neg o4,if_neg o5,if_neg (by simp[o6,o7])]);have p1:(op==1)=false:=by simpa using o1
   have p2:(op==2)=false:=by simpa using o2
   have p3:(op==3)=false:=by simpa using o3
   have p4:(op==4)=false:=by simpa using o4
   have p5:(op==5)=false:=by simpa using o5
   have p6:(op==6)=false:=by simpa using o6
   have p7:(op==7)=false:=by simpa using o7
   clear HR hk o1 o2 o3 o4 o5 o6 o7;go_wp2;go_ret;exact⟨ret_bool HS.out.symm,HB.out⟩
end Go.Proofs.YtihniipjfdenbaaGreatDoor
