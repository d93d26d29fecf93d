/- The walk of fact.Least. No conditions. -/
import Derived.Test.YtejbgoigkefnfaaGreatDoorAl
import Derived.Test.YtejbgoigkefnfaaGreatDoorDgEP
set_option maxRecDepth 100000
set_option maxHeartbeats 4000000
namespace Go.Proofs.YtejbgoigkefnfaaGreatDoor
open Go.RowKit
theorem Bz {α:Type}(p:α->Bool):∀(l:List α) (k:Nat),decide (0<=idxFrom p l (k:Int))=l.any p
 | [],k=>by simp[idxFrom]
 | x::l,k=>by{rw[idxFrom,Tg];cases h:p x with| true=>simp| false=>{rw[Aa la,Sh];exact Bz p l (k+1)}}
theorem MI (d:List Fa)(t:List Dn)(n:Dn)(ag:Option Addr)(cg:Nat)(ad:Option Addr)(cd:Nat)(vc vk:Value)(gp dp:Nat)(w:World)(B:Nat)(hB:B<=w.heap.size)(hg:oe w B t (.agg #[.slice ag t.length cg]))(hc:IntsIn w B n.Ja vc)(hk:IntsIn w B n.kids vk)
  (hd:bf w B d (.agg #[.slice ad d.length cd])) (hl:n.Ja.length<=1000000) (h1:w.cell? ⟨gp,0,none⟩=some (.slice ag t.length cg)) (h2:w.cell? ⟨dp,0,none⟩=some (.slice ad d.length cd)):
  Calls Tryz.prog 52 #[.agg #[.int .i64 n.fact,vc,vk,.bool n.leaf],.pointer (some ⟨gp,0,none⟩),.pointer (some ⟨dp,0,none⟩)] w fun e w'=>e=.returned (.bool (!Xd d t n))/\ Below w.heap.size w w':=by
 obtain⟨ac,cc,rfl,_⟩:=Xa.shape hc;obtain⟨ak,ck,rfl,_⟩:=Xa.shape hk;have hb:Below w.heap.size w (w.alloc (.cells #[.int .i64 n.fact,.slice ac n.Ja.length cc,.slice ak n.kids.length ck,.bool n.leaf] 56)):=(za _ _).alloc (ja _) _;have HC:=da (EH d t n _ _ _ _ _ B (by simp;omega) (hg.below (hb.mono hB)) (hc.below (hb.mono hB)) (hk.below (hb.mono hB)) (hd.below (hb.mono hB)) hl);have cN:=Ae _ _ h1;have hdp:=Ae _ _ h2;have HB:=da hb;have x0:=(Bb.new w 56 #[.int .i64 n.fact,.slice ac n.Ja.length cc,.slice ak n.kids.length ck,.bool n.leaf]).cell 0;generalize Xd d t n=R at*
 clear hg hc hk hd hb;cases R
 all_goals
  go_enter Tryz.func52,Tryz.ntmps52;go_wp2_with (go_at_call 53;refine HC.out.mono ?_;rintro e w3 ⟨rfl,Lc⟩;have Qc:=da (HB.out.trans (Lc.mono la));clear Lc);go_ret;exact⟨rfl,Qc.out⟩
theorem AP (d:List Fa)(t:List Dn)(ag:Option Addr)(cg:Nat)(ad:Option Addr)(cd:Nat)(gp dp:Nat)(w:World)(B:Nat)(hB:B<=w.heap.size)(hg:oe w B t (.agg #[.slice ag t.length cg]))
  (hd:bf w B d (.agg #[.slice ad d.length cd])) (hl:∀n∈t,n.Ja.length<=1000000) (h1:w.cell? ⟨gp,0,none⟩=some (.slice ag t.length cg)) (h2:w.cell? ⟨dp,0,none⟩=some (.slice ad d.length cd)):
  Calls Tryz.prog 103 #[.slice ag t.length cg,(.func (.func 52) #[] #[.pointer (some ⟨gp,0,none⟩),.pointer (some ⟨dp,0,none⟩)])] w fun e w'=>e=.returned (.int .i64 (idxFrom (fun n=> !Xd d t n) t 0))/\ Below w.heap.size w w':=by
 have HG:=da hg;have HD:=da hd;have HL:=da hl;have Uv:Hid (Xa yo 4 w B t (.slice ag t.length cg)):=by obtain⟨_,e,h⟩:=hg;cases e;exact h
 obtain⟨_,_,e1,l1,l2,_⟩:=Uv.out;obtain⟨rfl,rfl⟩:ag=_/\ cg=_:=by simpa using e1
 unfold maxLen at l2;have HR:Hid (idxFrom (fun n=> !Xd d t n) t 0=idxFrom (fun n=> !Xd d t n) (t.drop 0) (0:Nat)):=rfl;generalize idxFrom (fun n=> !Xd d t n) t 0=R at*
 have cN:=Ae _ _ h1;have hdp:=Ae _ _ h2;clear hg hd hl;go_enter Tryz.func103,Tryz.ntmps103;go_wp2
 go_loopw [8] (fun i wr=>∃k:Nat,k<=t.length/\ i=.int .i64 k/\ Hid (R=idxFrom (fun n=> !Xd d t n) (t.drop k) k)/\ Hid (Below w.heap.size w wr)) (fun i _=>t.length-(intOf i).toNat)
 case atStart=>exact⟨0,ia,rfl,HR,za _ _⟩
 case round=>
  obtain⟨k,hk,rfl,hin,hb⟩:=hrel;have hsz:=hb.out.size;by_cases hlt:k<t.length
  ·have HC:=da (fun vc vk (q:IntsIn w B t[k].Ja vc) (q':IntsIn w B t[k].kids vk)=>MI d t t[k] _ _ _ _ vc vk gp dp wr B ia (HG.out.below (hb.out.mono hB)) (q.below (hb.out.mono hB)) (q'.below (hb.out.mono hB)) (HD.out.below (hb.out.mono hB)) (HL.out _ (Ga _))
    ((hb.out.cell (p:=⟨gp,0,none⟩) cN).trans h1) ((hb.out.cell (p:=⟨dp,0,none⟩) hdp).trans h2))
   obtain⟨b,o,rfl,Rj,vc,vk,n0,n1,n2,n3,Jj,hki⟩:=Uv.out.at k hlt;have q0:=(hb.out.cell (p:=⟨b,o+k*4,none⟩) (by show b<w.heap.size;omega)).trans n0;have q1:=(hb.out.cell (p:=⟨b,o+k*4+1,none⟩) (by show b<w.heap.size;omega)).trans n1;have q2:=(hb.out.cell (p:=⟨b,o+k*4+2,none⟩) (by show b<w.heap.size;omega)).trans n2;have q3:=(hb.out.cell (p:=⟨b,o+k*4+3,none⟩) (by show b<w.heap.size;omega)).trans n3;have HC2:=da (HC.out vc vk Jj hki);have ng:=hin.out;rw[Kk _ t k hlt]at ng;obtain⟨ac,cc,rfl,_⟩:=Xa.shape Jj;obtain⟨ak,ck,rfl,_⟩:=Xa.shape hki;have Kn:=da ng;clear n0 n1 n2 n3 Jj hki HC ng hin HR;generalize Xd d t t[k]=pb at*
   generalize t[k]=x at*
   cases pb with| false=>{have HS:=da (show(k:Int)=R by rw[Kn.out];rfl);clear Kn;go_wp2_with (go_at_call 52;refine HC2.out.mono ?_;rintro e w2 ⟨rfl,ud⟩);go_ret;exact⟨ke HS.out,hb.out.trans (ud.mono hsz)⟩}| true=>{(have HS:Hid (R=idxFrom (fun n=> !Xd d t n) (t.drop (k+1)) ((k+1:Nat):Int)):=by show _=_;rw[Kn.out];rfl);clear Kn;go_wp2_with (go_at_call 52;refine HC2.out.mono ?_;rintro e w2 ⟨rfl,ud⟩);go_roundw;(case rel=>exact⟨k+1,ia,by go_num,HS,hb.out.trans (ud.mono hsz)⟩);case measure=>simp[intOf];omega}
  ·have HS:=da (show(-1:Int)=R by
    have h0:=hin.out
    rw[Ta ia]at h0
    exact h0.symm)
   clear hin HR;go_wp2;go_ret;exact⟨ke HS.out,hb.out⟩
theorem BP (d:List Fa)(t:List Dn)(ag:Option Addr)(cg:Nat)(ad:Option Addr)(cd:Nat)(gp dp:Nat)(w:World)(B:Nat)(hB:B<=w.heap.size)(hg:oe w B t (.agg #[.slice ag t.length cg]))
  (hd:bf w B d (.agg #[.slice ad d.length cd])) (hl:∀n∈t,n.Ja.length<=1000000) (h1:w.cell? ⟨gp,0,none⟩=some (.slice ag t.length cg)) (h2:w.cell? ⟨dp,0,none⟩=some (.slice ad d.length cd)):
  Calls Tryz.prog 54 #[.slice ag t.length cg,(.func (.func 52) #[] #[.pointer (some ⟨gp,0,none⟩),.pointer (some ⟨dp,0,none⟩)])] w fun e w'=>e=.returned (.bool (!t.all (Xd d t)))/\ Below w.heap.size w w':=by
 have HC:=da (AP d t ag cg ad cd gp dp w B hB hg hd hl h1 h2);have HS:=da (Bz (fun n=> !Xd d t n) t 0);have HA:Hid (t.any (fun n=> !Xd d t n)= !t.all (Xd d t)):=by show _=_;rw[List.not_all_eq_any_not]
 have e:((0:Nat):Int)=0:=rfl;rw[e]at HS;clear hg hd hl h1 h2 e;generalize idxFrom (fun n=> !Xd d t n) t 0=R at*
 go_enter Tryz.func54,Tryz.ntmps54;go_wp2_with (go_at_call 103;refine HC.out.mono ?_;rintro e w2 ⟨rfl,ud⟩);go_ret;exact⟨Oa (by rw[HS.out,HA.out]),ud⟩
structure VaS (w6 : World) (K : Nat) (t : List Dn) (wr : World) : Prop where
 is:Pj wr K K [] t
 Al:ld K [] w6 wr
theorem CP {t:List Dn}{j:Nat}(h:j<t.length)(hn:t[j]∉t.take j):Md (t.take j) t[j]=(t.take (j+1),j):=by
 unfold Md;rw[Aa hn,Ka h,Bc];congr 1
 omega
theorem tT {t:List Dn}{j:Nat}(h:j<t.length)(hn:t[j]∈t.take j):(Md (t.take j) t[j]).2<j:=by
 unfold Md;rw[if_pos hn];have:=Ub hn;rw[Bc]at this
 show(t.take j).idxOf t[j]<j
 omega
theorem Cz {t:List Dn}{j:Nat}(h:j<t.length)(hn:(t.take j).Nodup)(hx:t[j]∉t.take j):(t.take (j+1)).Nodup:=by
 rw[Ka h,Bf];exact⟨hn,la,fun a ha b hb e=>hx (by rw[Nb]at hb;rw[<-hb, <-e];exact ha)⟩
theorem Pp (d:List Fa)(t:List Dn)(vg u:Value)(w:World)(B:Nat)(hB:B<=w.heap.size)(hg:oe w B t vg)(hd:bf w B d u)(Gq:∀n∈t,Rs n)(hT:tm w.heap.size w):
  Calls Tryz.prog 15 #[vg,u] w fun e w'=>e=.returned (.bool (Re d t))/\ Below w.heap.size w w':=by
 have HG:=da hg;have HD:=da hd;obtain⟨_,rfl,hg2⟩:=hg;obtain⟨_,rfl,Tm⟩:=hd;have Uv:=da hg2;obtain⟨ag,cg,rfl,l1,l2,_⟩:=Xa.shape hg2;obtain⟨ad,cd,rfl,_⟩:=Xa.shape Tm;unfold maxLen at l2;have ud:Below w.heap.size w ((w.alloc (.cells #[.slice ag t.length cg] 34)).alloc (.cells #[.slice ad d.length cd] 27)):=((za _ _).alloc (ja _) _).alloc la _;have K0:Bb ((w.alloc (.cells #[.slice ag t.length cg] 34)).alloc (.cells #[.slice ad d.length cd] 27)) w.heap.size 34 #[.slice ag t.length cg]:=(Bb.new w 34 #[.slice ag t.length cg]).alloc _
 have K1:Bb ((w.alloc (.cells #[.slice ag t.length cg] 34)).alloc (.cells #[.slice ad d.length cd] 27)) (w.heap.size+1) 27 #[.slice ad d.length cd]:=by{have q:=Bb.new (w.alloc (.cells #[.slice ag t.length cg] 34)) 27 #[.slice ad d.length cd];simpa only[Ba]using q}
 have qm:(((w.alloc (.cells #[.slice ag t.length cg] 34)).alloc (.cells #[.slice ad d.length cd] 27))).heap.size=w.heap.size+2:=by simp
 obtain⟨W,hW⟩:∃W,((w.alloc (.cells #[.slice ag t.length cg] 34)).alloc (.cells #[.slice ad d.length cd] 27))=W:=⟨_,rfl⟩;rw[hW]at ud K0 K1 qm;have HW:=da hW;have Vd:=da ud;have Be:=da K0;have Gf:=da K1;have x0:=K0.cell 0;have y0:=K1.cell 0;have H64:=da Gq;have HT:=da hT;have HV:=da (Xu d _ W B ia (HD.out.below (ud.mono hB)))
 have HH:Hid (∀w',Bb w' w.heap.size 34 #[.slice ag t.length cg]->Bb w' (w.heap.size+1) 27 #[.slice ad d.length cd]->Below w.heap.size w w'->
   Calls Tryz.prog 54 #[.slice ag t.length cg,(.func (.func 52) #[] #[.pointer (some ⟨w.heap.size,0,none⟩),.pointer (some ⟨w.heap.size+1,0,none⟩)])] w' fun e w''=>e=.returned (.bool (!t.all (Xd d t)))/\ Below w'.heap.size w' w''):=fun w' q0 q1 hb=>
  BP d t ag cg ad cd w.heap.size (w.heap.size+1) w' B (by have:=hb.size;omega) (HG.out.below (hb.mono hB)) (HD.out.below (hb.mono hB)) (fun n hn=>(Gq n hn).lc) (q0.cell 0) (q1.cell 0)
 obtain⟨R,hR⟩:∃R,Re d t=R:=⟨_,rfl⟩;rw[hR];have X4:R=(Hf d&& !t.isEmpty&& decide (t.length<=20000)&& t.all (Xd d t)&& decide t.Nodup&& decide (ue t (Yb t (d.length+1) [] 0)=t)):=hR.symm;have HR:=da X4;clear hg2 Tm hW ud K0 K1 Gq hT hR X4;go_enter Tryz.func15,Tryz.ntmps15;go_upto_region 1 with(fail);rw[HW.out];cases e1:Hf d with
 | false=>{have HS:=da (show R=false by rw[HR.out,e1];rfl);rw[e1]at HV;go_wp2_with (go_at_call 13;refine HV.out.mono ?_;rintro e w4 ⟨rfl,hb4⟩;have x0:=(Be.out.below hb4).cell 0;have oq:=da (Be.out.below hb4);have Wt:=da (Gf.out.below hb4);have Oe:=da (Vd.out.trans (hb4.mono ia));have hs4:=hb4.size;clear hb4);go_ret;exact⟨Oa HS.out.symm,Oe.out⟩}
 | true=>
  rw[e1]at HV;cases e2:((t.length:Int)==0)with
  | true=>{have HS:=da (show R=false by rw[HR.out,e1];rw[fh]at e2;have ht:t=[]:=(by simpa using e2);rw[ht];rfl);go_wp2_with (go_at_call 13;refine HV.out.mono ?_;rintro e w4 ⟨rfl,hb4⟩;have x0:=(Be.out.below hb4).cell 0;have oq:=da (Be.out.below hb4);have Wt:=da (Gf.out.below hb4);have Oe:=da (Vd.out.trans (hb4.mono ia));have hs4:=hb4.size;clear hb4);go_ret;exact⟨Oa HS.out.symm,Oe.out⟩}
  | false=>
   cases e3:decide ((20000:Int)<(t.length:Int))with
   | true=>
    have HS:=da (show R=false by
     have:¬t.length<=20000:=by simp at e3;omega
     rw[HR.out,Ia this];simp)
    go_wp2_with (go_at_call 13;refine HV.out.mono ?_;rintro e w4 ⟨rfl,hb4⟩;have x0:=(Be.out.below hb4).cell 0;have oq:=da (Be.out.below hb4);have Wt:=da (Gf.out.below hb4);have Oe:=da (Vd.out.trans (hb4.mono ia));have hs4:=hb4.size;clear hb4);go_ret;exact⟨Oa HS.out.symm,Oe.out⟩
   | false=>
    have FM:t.length<=20000:=by simp at e3;omega
    have hne:t≠[]:=fun e=>by rw[fh,e]at e2;simp at e2
    cases e4:t.all (Xd d t)with
    | false=>{have HS:=da (show R=false by rw[HR.out,e4];simp);rw[e4]at HH;clear hne;go_wp2_with (first | (go_at_call 13;refine HV.out.mono ?_;rintro e w4 ⟨rfl,hb4⟩;have x0:=(Be.out.below hb4).cell 0;have oq:=da (Be.out.below hb4);have Wt:=da (Gf.out.below hb4);have Oe:=da (Vd.out.trans (hb4.mono ia));have hs4:=hb4.size;clear hb4) | (go_at_call 54;refine(HH.out _ oq.out Wt.out Oe.out).mono ?_;rintro e w5 ⟨rfl,fe⟩;clear x0;have x0:=(oq.out.below fe).cell 0;have VE:=da (oq.out.below fe);have Jf:=da (Oe.out.trans (fe.mono ia));have hs5:=fe.size;clear fe));go_ret;exact⟨Oa HS.out.symm,Jf.out⟩}
    | true=>
     have dK:=(nv d t).1 e4;have Zv:=da dK;have HDK:=da (mg e1);have hpos:0<t.length:=List.length_pos_iff.2 hne
     have Fi:Hid (R=(decide t.Nodup&& decide (ue t (Yb t (d.length+1) [] 0)=t))):=by{show _=_;rw[HR.out,e1,e4,Ma FM,show t.isEmpty=false by simpa using hne];rfl}
     rw[e4]at HH;clear hne e4 dK HR;go_upto_region 5 with(first | (go_at_call 13;refine HV.out.mono ?_;rintro e w4 ⟨rfl,hb4⟩;have x0:=(Be.out.below hb4).cell 0;have oq:=da (Be.out.below hb4);have Wt:=da (Gf.out.below hb4);have Oe:=da (Vd.out.trans (hb4.mono ia));have hs4:=hb4.size;clear hb4) | (go_at_call 54;refine(HH.out _ oq.out Wt.out Oe.out).mono ?_;rintro e w5 ⟨rfl,fe⟩;clear x0;have x0:=(oq.out.below fe).cell 0;have VE:=da (oq.out.below fe);have Jf:=da (Oe.out.trans (fe.mono ia));have hs5:=fe.size;clear fe));have ajc:w.heap.size+2<=w5.heap.size:=by omega
     have fB:Pj (w5.alloc (.cells #[.slice none 0 0,.map none] 70)) w5.heap.size w5.heap.size [] []:=⟨ja _,⟨.slice none 0 0,none,[],Bb.new _ _ _,ic _ _ _ _,rfl,la,.inl ⟨rfl,rfl⟩⟩,la⟩;have Sk:Below w5.heap.size w5 (w5.alloc (.cells #[.slice none 0 0,.map none] 70)):=(za _ _).alloc (ja _) _;have RE:((w5.alloc (.cells #[.slice none 0 0,.map none] 70))).heap.size=w5.heap.size+1:=by simp
     have HY6:=da (VE.out.below Sk);have x6:=HY6.out.cell 0;obtain⟨w6,Ht⟩:∃w6,(w5.alloc (.cells #[.slice none 0 0,.map none] 70))=w6:=⟨_,rfl⟩;rw[Ht]at fB Sk RE HY6 x6;have eh:=da (Jf.out.trans (Sk.mono ia));have Y4:Hid (tm w5.heap.size w6):=fun w' hb=>HT.out w' (eh.out.trans (hb.mono ia))
     have HV0:Hid (VaS w6 w5.heap.size (t.take 0) w6):=⟨fB,ld.refl _ _ _⟩;have Z4:Hid ((t.take 0).Nodup):=by show List.Nodup _;simp
     have Pw:=da Ht;clear fB Sk Ht x0;rw[Pw.out];go_wp2
     go_loopw [38] (fun iv wr=>∃j:Nat,j<=t.length/\ iv=.int .i64 j/\ Hid (VaS w6 w5.heap.size (t.take j) wr)/\ Hid ((t.take j).Nodup)) (fun iv _=>t.length-(intOf iv).toNat)
     case atStart=>exact⟨0,ia,rfl,HV0,Z4⟩
     case round=>
      obtain⟨j,hj,rfl,hv,hnd⟩:=hrel;clear HV0 Z4 x6;have NA:=hv.out.Al.size;have sX:=hv.out.Al.below ia;have zj:Hid (Below w.heap.size w wr):=eh.out.trans (sX.mono ia);by_cases hlt:j<t.length
      ·obtain⟨b,o,rfl,Rj,vc,vk,n0,n1,n2,n3,Jj,hki⟩:=Uv.out.at j hlt
       have q0:=(zj.out.cell (p:=⟨b,o+j*4,none⟩) (by show b<w.heap.size;omega)).trans n0;have q1:=(zj.out.cell (p:=⟨b,o+j*4+1,none⟩) (by show b<w.heap.size;omega)).trans n1;have q2:=(zj.out.cell (p:=⟨b,o+j*4+2,none⟩) (by show b<w.heap.size;omega)).trans n2;have q3:=(zj.out.cell (p:=⟨b,o+j*4+3,none⟩) (by show b<w.heap.size;omega)).trans n3;have RB:ld w5.heap.size [] w6 (wr.alloc (.cells #[.int .i64 t[j].fact,vc,vk,.bool t[j].leaf] 56)):=hv.out.Al.alloc _;have KJ:Below wr.heap.size wr (wr.alloc (.cells #[.int .i64 t[j].fact,vc,vk,.bool t[j].leaf] 56)):=(za _ _).alloc (ja _) _
       have cn:=Qt w5.heap.size w5.heap.size [] (t.take j) t[j] vc vk _ (hv.out.is.below KJ (ja _)) (Me.old (Jj.below (eh.out.mono hB)) ia ia RB) (Me.old (hki.below (eh.out.mono hB)) ia ia RB)
        (by rw[Bc];omega) (H64.out _ (Ga _)) (Y4.out.on (RB.below ia))
       have HN:=da cn;have eZ:=da RB;obtain⟨ac,cc,rfl,_⟩:=Xa.shape Jj;obtain⟨ak,ck,rfl,_⟩:=Xa.shape hki;clear n0 n1 n2 n3 Jj hki cn RB KJ;by_cases hx:t[j]∈t.take j
       ·have hq:=tT hlt hx
        have HS:=da (show R=false by
         have:¬t.Nodup:=fun hn=>by{have h2:=hn.sublist (List.take_sublist (j+1) t);rw[Ka hlt,Bf]at h2;exact h2.2.2 _ hx t[j] la rfl}
         rw[Fi.out,Ia this];rfl)
        clear hx;generalize Md (t.take j) t[j]=A at*
        generalize t[j]=x at*
        have hne:((A.2:Int) !=(j:Int))=true:=by rw[bne_iff_ne];omega
        go_wp2_with (go_at_call 40;refine HN.out.mono ?_;rintro e w7 ⟨rfl,h1,h2⟩;have qp:=da (h2.s.below (by have:=eZ.out.size;omega));clear h1 h2);go_ret;exact⟨Oa HS.out.symm,zj.out.trans (((za _ _).alloc ia _).trans (qp.out.mono ia))⟩
       {have hq:=CP hlt hx;rw[hq]at HN;have j8:=da (Cz hlt hnd.out hx);clear hx hq;generalize t[j]=x at*;(have hne:((j:Int) !=(j:Int))=false:=la);go_wp2_with (go_at_call 40;refine HN.out.mono ?_;rintro e w7 ⟨rfl,h1,h2⟩;have fK:Hid (VaS w6 w5.heap.size (t.take (j+1)) w7):=⟨h1,eZ.out.trans h2.s⟩;clear h1 h2);go_roundw;(case rel=>exact⟨j+1,ia,by go_num,fK,j8⟩);case measure=>simp[intOf];omega}
      ·have Mk:j=t.length:=by omega
       have U7:=hv.out.is;have YF:=hnd.out;rw[Mk,Jb]at U7 YF;have HS:Hid (R=decide (ue t (Yb t (d.length+1) [] 0)=t)):=by show _=_;rw[Fi.out,Ma YF];rfl
       have PM:=Qx t w5.heap.size w5.heap.size [] 0 wr U7 Zv.out hpos FM (fun n hn=>by have:=(Sj HDK.out Zv.out n hn).1;omega);rw[show((0:Nat):Int)=0 from rfl]at PM
       have Zz:Hid (Calls Tryz.prog 47 #[.pointer (some ⟨w5.heap.size,0,none⟩),.int .i64 0] wr fun e W'=>∃(au:Option Addr) (cu:Nat),e=.returned (.tuple #[.agg #[.slice au (ue t (Yb t (d.length+1) [] 0)).length cu],.int .i64 0])/\ Hid (oe W' W'.heap.size (ue t (Yb t (d.length+1) [] 0)) (.agg #[.slice au (ue t (Yb t (d.length+1) [] 0)).length cu]))/\ Hid (Below wr.heap.size wr W')):=by{refine PM.mono ?_;rintro e W' ⟨_,rfl,⟨u,rfl,h1⟩,h2⟩;obtain⟨au,cu,rfl,_⟩:=Xa.shape h1;exact⟨au,cu,rfl,⟨_,rfl,h1⟩,h2⟩}
       have I9:Hid (∀W' au cu,Hid (oe W' W'.heap.size (ue t (Yb t (d.length+1) [] 0)) (.agg #[.slice au (ue t (Yb t (d.length+1) [] 0)).length cu]))->Hid (Below wr.heap.size wr W')->Calls Tryz.prog 31 #[.agg #[.slice au (ue t (Yb t (d.length+1) [] 0)).length cu],.agg #[.slice ag t.length cg]] (W'.alloc (.cells #[.slice au (ue t (Yb t (d.length+1) [] 0)).length cu] 34)) fun e w'=>e=.returned (.bool R)/\ Below W'.heap.size W' w'):=by{intro W' au cu h1 h2;have hz:=h2.out.size;have jE:Below W'.heap.size W' (W'.alloc (.cells #[.slice au (ue t (Yb t (d.length+1) [] 0)).length cu] 34)):=(za _ _).alloc (ja _) _;have q:=iB (ue t (Yb t (d.length+1) [] 0)) t _ _ _ W'.heap.size la (h1.out.below jE) (((HG.out.below ((zj.out.trans (h2.out.mono ia)).mono hB)).mono (B':=W'.heap.size) ia).below jE);rw[<-HS.out]at q;refine q.mono ?_;rintro e w' ⟨rfl,h3⟩;exact⟨rfl,jE.trans (h3.mono la)⟩}
       have HYR:Hid (Bb wr w.heap.size 34 #[.slice ag t.length cg]):=(sX.block w.heap.size ia).trans HY6.out;generalize ue t (Yb t (d.length+1) [] 0)=ft at*
       clear U7 YF PM Mk HS Fi sX
       go_wp2_with (first
        | (go_at_call 47;refine Zz.out.mono ?_;rintro e w8 ⟨au,cu,rfl,HU8,ei⟩;have y8:=((HYR.out.below ei.out).alloc (.cells #[.slice au ft.length cu] 34)).cell 0;have SG:=ei.out.size;have p_:=(HYR.out.below ei.out).lt)
        | (go_at_call 31;refine(I9.out _ _ _ HU8 ei).mono ?_;rintro e w9 ⟨rfl,UH⟩))
       go_ret;exact⟨rfl,zj.out.trans ((ei.out.trans (UH.mono ia)).mono ia)⟩
theorem Oy {α:Type}(p:α->Bool):∀(l:List α) (k:Nat),idxFrom p l (k:Int)=if l.any p then((k+l.findIdx p:Nat):Int)else-1
 | [],k=>by simp[idxFrom]
 | x::l,k=>by{rw[idxFrom,Tg,List.findIdx_cons];cases h:p x with| true=>simp| false=>{rw[Aa la,Sh];have ih:=Oy p l (k+1);have e:((k+1:Nat):Int)=(k:Int)+1:=rfl;rw[<-e,ih];(split);{simp only[cond_false];congr 1;omega};{rfl}}}
theorem uF (g:Nat)(lb:Array Value)(eg:∀args w,(callFunc g args).run Tryz.prog w=.ok (.enter g args) w)(p:Int->Bool)(l:List Int)(v:Value)(w:World)(B:Nat)(hB:B<=w.heap.size)(hl:IntsIn w B l v)
  (hp:∀x∈l,∀W,Below w.heap.size w W->Calls Tryz.prog g (#[.int .i64 x]++lb) W fun e W'=>e=.returned (.bool (p x))/\ Below W.heap.size W W'):
  Calls Tryz.prog 63 #[v,.func (.func g) #[] lb] w fun e w'=>e=.returned (.int .i64 (idxFrom p l 0))/\ Below w.heap.size w w':=by
 have HL:=da hl;have HP:=da hp;obtain⟨al,cl,rfl,l1,l2,_⟩:=Xa.shape hl;unfold maxLen at l2;have HR:Hid (idxFrom p l 0=idxFrom p (l.drop 0) (0:Nat)):=rfl;generalize idxFrom p l 0=R at*
 clear hl hp;go_enter Tryz.func63,Tryz.ntmps63;go_wp2
 go_loopw [8] (fun i wr=>∃k:Nat,k<=l.length/\ i=.int .i64 k/\ Hid (R=idxFrom p (l.drop k) k)/\ Hid (Below w.heap.size w wr)) (fun i _=>l.length-(intOf i).toNat)
 case atStart=>exact⟨0,ia,rfl,HR,za _ _⟩
 case round=>
  obtain⟨k,hk,rfl,hin,hb⟩:=hrel;have hsz:=hb.out.size;by_cases hlt:k<l.length
  {obtain⟨b,o,rfl,Rj,hc⟩:=Xa.one HL.out k hlt;have q0:=(hb.out.cell (p:=⟨b,o+k,none⟩) (by show b<w.heap.size;omega)).trans hc;have ng:=hin.out;rw[Kk _ l k hlt]at ng;have HC:=da (HP.out l[k] (Ga _) wr hb.out);have Kn:=da ng;clear hc ng hin HR;generalize l[k]=x at*;generalize p x=pb at*;cases pb with| true=>{have HS:=da (show(k:Int)=R by rw[Kn.out];rfl);clear Kn;go_wp2_with (go_at_fn g;refine HC.out.mono ?_;rintro e w2 ⟨rfl,ud⟩);go_ret;exact⟨ke HS.out,hb.out.trans (ud.mono hsz)⟩}| false=>{(have HS:Hid (R=idxFrom p (l.drop (k+1)) ((k+1:Nat):Int)):=by show _=_;rw[Kn.out];rfl);clear Kn;go_wp2_with (go_at_fn g;refine HC.out.mono ?_;rintro e w2 ⟨rfl,ud⟩);go_roundw;(case rel=>exact⟨k+1,ia,by go_num,HS,hb.out.trans (ud.mono hsz)⟩);case measure=>simp[intOf];omega}}
  ·have HS:=da (show(-1:Int)=R by
    have h0:=hin.out
    rw[Ta ia]at h0
    exact h0.symm)
   clear hin HR;go_wp2;go_ret;exact⟨ke HS.out,hb.out⟩
theorem RL (c v:Int)(b:Nat)(w:World)(hc:w.cell? ⟨b,0,none⟩=some (.int .i64 v)):
  Calls Tryz.prog 104 #[.int .i64 c,.pointer (some ⟨b,0,none⟩)] w fun e w'=>e=.returned (.bool (decide (v<c)))/\ Below w.heap.size w w':=by
 go_enter Tryz.func104,Tryz.ntmps104;go_wp2;go_ret;exact⟨rfl,za _ _⟩
def Lk (n:Dn)(v:Int):Int:=if n.Ja.any (fun c=>decide (v<c))then(Yd n.Ja v:Int)else(n.kids.length:Int)-1
theorem FE (n:Dn)(v:Int)(vc vk:Value)(w:World)(B:Nat)(hB:B<=w.heap.size)(hc:IntsIn w B n.Ja vc)(hk:IntsIn w B n.kids vk):
  Calls Tryz.prog 55 #[.agg #[.int .i64 n.fact,vc,vk,.bool n.leaf],.int .i64 v] w fun e w'=>e=.returned (.int .i64 (Lk n v))/\ Below w.heap.size w w':=by
 obtain⟨ac,cc,rfl,_⟩:=Xa.shape hc;obtain⟨ak,ck,rfl,k1,k2,_⟩:=Xa.shape hk;unfold maxLen at k2;have ud:Below w.heap.size w ((w.alloc (.cells #[.int .i64 n.fact,.slice ac n.Ja.length cc,.slice ak n.kids.length ck,.bool n.leaf] 56)).alloc (.cells #[.int .i64 v] 3)):=((za _ _).alloc (ja _) _).alloc la _;have K0:Bb ((w.alloc (.cells #[.int .i64 n.fact,.slice ac n.Ja.length cc,.slice ak n.kids.length ck,.bool n.leaf] 56)).alloc (.cells #[.int .i64 v] 3)) w.heap.size 56 #[.int .i64 n.fact,.slice ac n.Ja.length cc,.slice ak n.kids.length ck,.bool n.leaf]:=(Bb.new w 56 #[.int .i64 n.fact,.slice ac n.Ja.length cc,.slice ak n.kids.length ck,.bool n.leaf]).alloc _
 have K1:Bb ((w.alloc (.cells #[.int .i64 n.fact,.slice ac n.Ja.length cc,.slice ak n.kids.length ck,.bool n.leaf] 56)).alloc (.cells #[.int .i64 v] 3)) (w.heap.size+1) 3 #[.int .i64 v]:=by{have q:=Bb.new (w.alloc (.cells #[.int .i64 n.fact,.slice ac n.Ja.length cc,.slice ak n.kids.length ck,.bool n.leaf] 56)) 3 #[.int .i64 v];simpa only[Ba]using q}
 have qm:(((w.alloc (.cells #[.int .i64 n.fact,.slice ac n.Ja.length cc,.slice ak n.kids.length ck,.bool n.leaf] 56)).alloc (.cells #[.int .i64 v] 3))).heap.size=w.heap.size+2:=by simp
 obtain⟨W,hW⟩:∃W,((w.alloc (.cells #[.int .i64 n.fact,.slice ac n.Ja.length cc,.slice ak n.kids.length ck,.bool n.leaf] 56)).alloc (.cells #[.int .i64 v] 3))=W:=⟨_,rfl⟩;rw[hW]at ud K0 K1 qm;have HW:=da hW;have Be:=da K0;have Gf:=da K1;have Vd:=da ud;have x1:=K0.cell 1
 have hI:=uF 104 #[.pointer (some ⟨w.heap.size+1,0,none⟩)] (enters_of Tryz.func104 Ca rfl) (fun c=>decide (v<c)) n.Ja _ W B ia (hc.below (ud.mono hB))
  (fun x _ W' hb=>RL x v (w.heap.size+1) W' ((K1.below hb).cell 0))
 have MJ:=Oy (fun c=>decide (v<c)) n.Ja 0;rw[dc,show((0:Nat):Int)=0 from rfl]at MJ;rw[MJ]at hI;have HI:=da hI;have HG:Hid (Lk n v=if n.Ja.any (fun c=>decide (v<c))then((n.Ja.findIdx fun c=>decide (v<c):Nat):Int)else(n.kids.length:Int)-1):=rfl;generalize Lk n v=R at*
 clear hc hk hW ud K0 K1 hI MJ;generalize(n.Ja.findIdx fun c=>decide (v<c))=fi at*
 generalize n.Ja.any (fun c=>decide (v<c))=an at*
 have f0:(0:Int)<=(fi:Int):=Ab _;cases an with| true=>{have HS:=da (show(fi:Int)=R by rw[HG.out];rfl);(have hlt:decide ((fi:Int)<0)=false:=la);clear HG;go_enter Tryz.func55,Tryz.ntmps55;go_upto_region 1 with(fail);rw[HW.out];go_wp2_with (go_at_call 63;refine HI.out.mono ?_;rintro e w3 ⟨rfl,Lc⟩);go_ret;exact⟨ke HS.out,Vd.out.trans (Lc.mono ia)⟩}| false=>{have HS:=da (show(n.kids.length:Int)-1=R by rw[HG.out];rfl);have hwr:IntKind.i64.wrap ((n.kids.length:Int)-1)=(n.kids.length:Int)-1:=Bd _ ia;clear HG;go_enter Tryz.func55,Tryz.ntmps55;go_upto_region 1 with(fail);rw[HW.out];go_wp2_with (go_at_call 63;refine HI.out.mono ?_;rintro e w3 ⟨rfl,Lc⟩;have x2:=(Be.out.below Lc).cell 2);go_ret;exact⟨ke HS.out,Vd.out.trans (Lc.mono ia)⟩}
def Vk (t:List Dn)(c:List Int):Nat->Int->Bool
 | 0,_=>false
 | f+1,a=>
  if a<0\/(t.length:Int)<=a then false
  else if(t.getD a.toNat default).kids=[]then(t.getD a.toNat default).leaf
  else if(t.getD a.toNat default).fact<0\/(c.length:Int)<=(t.getD a.toNat default).fact then false
  else if((t.getD a.toNat default).kids.length:Int)<=Lk (t.getD a.toNat default) (c.getD (t.getD a.toNat default).fact.toNat 0)then false
  else Vk t c f ((t.getD a.toNat default).kids.getD (Lk (t.getD a.toNat default) (c.getD (t.getD a.toNat default).fact.toNat 0)).toNat 0)
theorem ZF {n:Dn}(h:n.kids≠[])(v:Int):0<=Lk n v:=by
 unfold Lk;have:0<n.kids.length:=List.length_pos_iff.2 h
 split<;>omega
theorem Yx {n:Dn}(h:n.kids.length=n.Ja.length+1)(v:Int):Lk n v=(Yd n.Ja v:Int):=by
 unfold Lk
 split
 {rfl}
 ·next hn=>
  have:Yd n.Ja v=n.Ja.length:=by{unfold Yd;rw[List.findIdx_eq_length];intro x hx;cases hd:decide (v<x)with| false=>rfl| true=>exact absurd (List.any_eq_true.2 ⟨x,hx,hd⟩) hn}
  rw[this,h];omega
theorem Iy (t:List Dn)(c:List Int)(vg u:Value)(w:World)(B:Nat)(hB:B<=w.heap.size)(hg:oe w B t vg)(hc:IntsIn w B c u):
  Calls Tryz.prog 17 #[vg,u] w fun e w'=>e=.returned (.bool (Vk t c t.length 0))/\ Below w.heap.size w w':=by
 have HC:=da hc;obtain⟨_,rfl,hg2⟩:=hg;have Uv:=da hg2;obtain⟨ag,cg,rfl,l1,l2,_⟩:=Xa.shape hg2;obtain⟨ac,cc,rfl,m1,m2,_⟩:=Xa.shape hc;unfold maxLen at l2 m2;obtain⟨R,hR⟩:∃R,Vk t c t.length 0=R:=⟨_,rfl⟩;rw[hR];have HR:Hid (R=Vk t c (t.length-0) 0):=hR.symm;clear hR;have Ve:Hid (Below w.heap.size w (w.alloc (.cells #[.slice ag t.length cg] 34))):=(za _ _).alloc (ja _) _;have Gf:Hid (Bb (w.alloc (.cells #[.slice ag t.length cg] 34)) w.heap.size 34 #[.slice ag t.length cg]):=Bb.new _ _ _;have hs1:(w.alloc (.cells #[.slice ag t.length cg] 34)).heap.size=w.heap.size+1:=by simp
 obtain⟨W,hW⟩:∃W,(w.alloc (.cells #[.slice ag t.length cg] 34))=W:=⟨_,rfl⟩;rw[hW]at Ve Gf hs1;have HW:=da hW;have x0:=Gf.out.cell 0;clear hg2 hc hW;go_enter Tryz.func17,Tryz.ntmps17;go_upto_region 1 with(fail);rw[HW.out];go_wp2
 go_loopw [5,11] (fun av iv wr=>∃(j:Nat) (a:Int),j<=t.length/\ iv=.int .i64 j/\ av=.int .i64 a/\ Hid (R=Vk t c (t.length-j) a)/\ Hid (Below W.heap.size W wr)) (fun _ iv _=>t.length-(intOf iv).toNat)
 case atStart=>exact⟨0,0,ia,rfl,rfl,HR,za _ _⟩
 case round=>
  obtain⟨j,a,hj,rfl,rfl,hin,hb⟩:=hrel;have hsz:=hb.out.size;have zj:Hid (Below w.heap.size w wr):=Ve.out.trans (hb.out.mono ia);clear x0 HR;have x0:=(Gf.out.below hb.out).cell 0;by_cases hlt:j<t.length
  ·have hf:t.length-j=(t.length-(j+1))+1:=by omega
   have ng:=hin.out;rw[hf,Vk]at ng;clear hf;by_cases g1:a<0
   {(have XK:decide (a<0)=true:=by simpa using g1);have HS:=da (show R=false by rw[ng,if_pos (.inl g1)]);clear hin ng g1;go_wp2;go_ret;exact⟨Oa HS.out.symm,zj.out⟩}
   ·have XK:decide (a<0)=false:=by simpa using g1
    by_cases g2:(t.length:Int)<=a
    {(have YK:decide ((t.length:Int)<=a)=true:=by simpa using g2);have HS:=da (show R=false by rw[ng,if_pos (.inr g2)]);clear hin ng g2;go_wp2;go_ret;exact⟨Oa HS.out.symm,zj.out⟩}
    ·have YK:decide ((t.length:Int)<=a)=false:=by simpa using g2
     have ha0:0<=a:=by omega
     have jR:a<(t.length:Int):=by omega
     have hat:a.toNat<t.length:=by omega
     rw[Aa ia,Eb _ _ _ hat]at ng;obtain⟨b,o,rfl,Rj,vc,vk,n0,n1,n2,n3,Jj,hki⟩:=Uv.out.at a.toNat hat;have q0:=(zj.out.cell (p:=⟨b,o+a.toNat*4,none⟩) (by show b<w.heap.size;omega)).trans n0;have q1:=(zj.out.cell (p:=⟨b,o+a.toNat*4+1,none⟩) (by show b<w.heap.size;omega)).trans n1;have q2:=(zj.out.cell (p:=⟨b,o+a.toNat*4+2,none⟩) (by show b<w.heap.size;omega)).trans n2;have q3:=(zj.out.cell (p:=⟨b,o+a.toNat*4+3,none⟩) (by show b<w.heap.size;omega)).trans n3;have Kn:=da ng;generalize t[a.toNat]=x at*
     have OV:=da Jj;have zJ:=da hki;obtain⟨xa,xc,rfl,_⟩:=Xa.shape Jj;obtain⟨ya,yc,rfl,y1,y2,_⟩:=Xa.shape hki;unfold maxLen at y2;clear n0 n1 n2 n3 Jj hki hin ng g1 g2;have Ff:Below wr.heap.size wr (wr.alloc (.cells #[.int .i64 x.fact,.slice xa x.Ja.length xc,.slice ya x.kids.length yc,.bool x.leaf] 56)):=(za _ _).alloc (ja _) _;have HX:=da (Bb.new wr 56 #[.int .i64 x.fact,.slice xa x.Ja.length xc,.slice ya x.kids.length yc,.bool x.leaf]);have p0:=HX.out.cell 0;have p1:=HX.out.cell 1;have p2:=HX.out.cell 2;have p3:=HX.out.cell 3;cases e1:((x.kids.length:Int)==0)with
     | true=>{(have Ii:x.kids=[]:=by rw[fh]at e1;simpa using e1);have HS:=da (show R=x.leaf by rw[Kn.out,if_pos Ii]);clear Kn Ii;go_wp2;go_ret;exact⟨Oa HS.out.symm,zj.out.trans (Ff.mono ia)⟩}
     | false=>
      have Ii:x.kids≠[]:=fun e=>by rw[fh,e]at e1;simp at e1
      have ow:=Kn.out;rw[Aa Ii]at ow;clear Kn;by_cases g3:x.fact<0
      {(have j5:decide (x.fact<0)=true:=by simpa using g3);have HS:=da (show R=false by rw[ow,if_pos (.inl g3)]);clear ow g3 Ii;go_wp2;go_ret;exact⟨Oa HS.out.symm,zj.out.trans (Ff.mono ia)⟩}
      ·have j5:decide (x.fact<0)=false:=by simpa using g3
       by_cases g4:(c.length:Int)<=x.fact
       {(have g4d:decide ((c.length:Int)<=x.fact)=true:=by simpa using g4);have HS:=da (show R=false by rw[ow,if_pos (.inr g4)]);clear ow g4 Ii;go_wp2;go_ret;exact⟨Oa HS.out.symm,zj.out.trans (Ff.mono ia)⟩}
       ·have g4d:decide ((c.length:Int)<=x.fact)=false:=by simpa using g4
        have C0:0<=x.fact:=by omega
        have KO:x.fact<(c.length:Int):=by omega
        have fW:x.fact.toNat<c.length:=by omega
        rw[Aa ia,Eb _ _ _ fW]at ow;obtain⟨kb,ko,rfl,Ou,hkc⟩:=Xa.one HC.out x.fact.toNat fW;have Jn:=((zj.out.trans (Ff.mono ia)).cell (p:=⟨kb,ko+x.fact.toNat,none⟩) (by show kb<w.heap.size;omega)).trans hkc;have hge:=ZF Ii c[x.fact.toNat];have Gs:=FE x c[x.fact.toNat] (.slice xa x.Ja.length xc) (.slice ya x.kids.length yc);generalize c[x.fact.toNat]=cv at*
        have HN:Hid (∀W',Hid (Below (wr.heap.size+1) (wr.alloc (.cells #[.int .i64 x.fact,.slice xa x.Ja.length xc,.slice ya x.kids.length yc,.bool x.leaf] 56)) W')->Calls Tryz.prog 55 #[.agg #[.int .i64 x.fact,.slice xa x.Ja.length xc,.slice ya x.kids.length yc,.bool x.leaf],.int .i64 cv] W' fun e w'=>e=.returned (.int .i64 (Lk x cv))/\ Hid (Below W'.heap.size W' w')):=fun W' hw=>Gs W' B (by have:=hw.out.size;simp at this;omega) (IntsIn.below ((zj.out.trans ((Ff.trans (hw.out.mono ia)).mono ia)).mono hB) OV.out) (IntsIn.below ((zj.out.trans ((Ff.trans (hw.out.mono ia)).mono ia)).mono hB) zJ.out)
        have Uu:Hid (∀w',Hid (Below (wr.heap.size+1) (wr.alloc (.cells #[.int .i64 x.fact,.slice xa x.Ja.length xc,.slice ya x.kids.length yc,.bool x.leaf] 56)) w')->(w'.cell? ⟨wr.heap.size,0,none⟩=some (.int .i64 x.fact)/\ w'.cell? ⟨wr.heap.size,1,none⟩=some (.slice xa x.Ja.length xc)/\ w'.cell? ⟨wr.heap.size,2,none⟩=some (.slice ya x.kids.length yc)/\ w'.cell? ⟨wr.heap.size,3,none⟩=some (.bool x.leaf)/\ w'.cell? ⟨kb,ko+x.fact.toNat,none⟩=some (.int .i64 cv))/\ Hid (Below (wr.heap.size+1) (wr.alloc (.cells #[.int .i64 x.fact,.slice xa x.Ja.length xc,.slice ya x.kids.length yc,.bool x.leaf] 56)) w')):=by{intro w' hw;have z:=HX.out.below (by rw[Ba];exact hw.out);exact⟨⟨z.cell 0,z.cell 1,z.cell 2,z.cell 3,(hw.out.cell (p:=⟨kb,ko+x.fact.toNat,none⟩) (by show kb<wr.heap.size+1;omega)).trans Jn⟩,hw⟩}
        have HW0:Hid (Below (wr.heap.size+1) (wr.alloc (.cells #[.int .i64 x.fact,.slice xa x.Ja.length xc,.slice ya x.kids.length yc,.bool x.leaf] 56)) ((wr.alloc (.cells #[.int .i64 x.fact,.slice xa x.Ja.length xc,.slice ya x.kids.length yc,.bool x.leaf] 56))).drew):=(za _ _).drew;generalize Lk x cv=kx at*
        clear Gs hkc g3 g4;go_upto_region 11 with(fail)
        go_region_held3 (fun w'=>(w'.cell? ⟨wr.heap.size,0,none⟩=some (.int .i64 x.fact)/\ w'.cell? ⟨wr.heap.size,1,none⟩=some (.slice xa x.Ja.length xc)/\ w'.cell? ⟨wr.heap.size,2,none⟩=some (.slice ya x.kids.length yc)/\ w'.cell? ⟨wr.heap.size,3,none⟩=some (.bool x.leaf)/\ w'.cell? ⟨kb,ko+x.fact.toNat,none⟩=some (.int .i64 cv))/\ Hid (Below (wr.heap.size+1) (wr.alloc (.cells #[.int .i64 x.fact,.slice xa x.Ja.length xc,.slice ya x.kids.length yc,.bool x.leaf] 56)) w'))
         (exact Uu.out _ Da)
         ((go_at_call 55;refine(HN.out _ Da).mono ?_;rintro e w8 ⟨rfl,ei⟩;have Cp:Hid (Below (wr.heap.size+1) (wr.alloc (.cells #[.int .i64 x.fact,.slice xa x.Ja.length xc,.slice ya x.kids.length yc,.bool x.leaf] 56)) w8):=HW0.out.trans (ei.out.mono la)))
        clear p0 p1 p2 p3 Jn Uu HN HW0;go_split_ands;have SG:=Cp.out.size;simp only[Ba]at SG;have di:Hid (Below W.heap.size W w8):=hb.out.trans ((Ff.trans (Cp.out.mono ia)).mono hsz);by_cases g5:(x.kids.length:Int)<=kx
        {(have g5d:decide ((x.kids.length:Int)<=kx)=true:=by simpa using g5);have HS:=da (show R=false by rw[ow,if_pos g5]);clear ow g5 Ii;go_wp2;go_ret;exact⟨Oa HS.out.symm,Ve.out.trans (di.out.mono ia)⟩}
        {(have g5d:decide ((x.kids.length:Int)<=kx)=false:=by simpa using g5);(have hx1:kx<(x.kids.length:Int):=ia);(have hx2:kx.toNat<x.kids.length:=ia);rw[Aa g5,Eb _ _ _ hx2]at ow;obtain⟨jb,jo,hja,hjB,hjc⟩:=Xa.one zJ.out kx.toNat hx2;subst hja;have hj2:=((Ve.out.trans (di.out.mono ia)).cell (p:=⟨jb,jo+kx.toNat,none⟩) (by show jb<w.heap.size;omega)).trans hjc;generalize x.kids[kx.toNat]=av at*;have HS:=da ow;clear ow g5 Ii hjc;go_wp2;go_roundw;(case rel=>exact⟨j+1,av,ia,by go_num,rfl,HS,di⟩);case measure=>simp[intOf];omega}
  ·have HS:=da (show R=false by
    have h:=hin.out
    rw[show t.length-j=0 by omega]at h
    exact h)
   clear hin;go_wp2;go_ret;exact⟨Oa HS.out.symm,zj.out⟩
theorem Ai {w:World}{x:Value}{t:TypeId}:∀j u,[x][j]? =some u->(w.alloc (.cells #[x] t)).cell? ((⟨w.heap.size,0,none⟩:Addr).add j)=some u:=by
 intro j u hj
 match j,hj with| 0,hj=>{simp at hj;subst hj;exact(Bb.new w t #[x]).cell 0}
theorem dI (d:List Fa)(v:Value)(w:World)(B:Nat)(hB:B<=w.heap.size)(hd:bf w B d v)(hv:Hf d=true):
  Calls Tryz.prog 62 #[v] w fun e w'=>∃u,e=.returned u/\ w'.ownsRow w.heap.size 3 1 u (d.map Fa.lo).length ((d.map Fa.lo).map iW)/\ Below w.heap.size w w':=by
 have HD:=da hd;have hdl:=(mg hv).len;obtain⟨_,rfl,Tm⟩:=hd;have VG:=da Tm;obtain⟨ad,cd,rfl,l1,l2,_⟩:=Xa.shape Tm;unfold maxLen at l2;have Ve:Hid (Below w.heap.size w (w.alloc (.cells #[.slice ad d.length cd] 27))):=(za _ _).alloc (ja _) _;have Gf:Hid (Bb (w.alloc (.cells #[.slice ad d.length cd] 27)) w.heap.size 27 #[.slice ad d.length cd]):=Bb.new _ _ _;have hs1:(w.alloc (.cells #[.slice ad d.length cd] 27)).heap.size=w.heap.size+1:=by simp
 obtain⟨W,hW⟩:∃W,(w.alloc (.cells #[.slice ad d.length cd] 27))=W:=⟨_,rfl⟩;rw[hW]at Ve Gf hs1;have Mu:=Xu d _ W B ia (HD.out.below (Ve.out.mono hB));rw[hv]at Mu;have HV:=da Mu;have HW:=da hW;have x0:=Gf.out.cell 0;obtain⟨i0,hi0,hz0,hz1,hz2⟩:=info_parts Ij;clear Tm hW Mu hv;go_enter Tryz.func62,Tryz.ntmps62;go_upto_region 1 with(fail);rw[HW.out];go_upto_region 4 with(go_at_call 13;refine HV.out.mono ?_;rintro e w2 ⟨rfl,ud⟩;have y0:=(Gf.out.below ud).cell 0;have Vd:=da (Ve.out.trans (ud.mono ia));have qm:=ud.size;clear ud);go_wp2
 go_loopw [3,12] (fun cv iv wr=>∃j:Nat,j<=d.length/\ iv=.int .i64 j/\ Hid (wr.ownsRow w.heap.size 3 1 cv j (((d.take j).map Fa.lo).map iW))/\ Hid (Below w.heap.size w wr)) (fun _ iv _=>d.length-(intOf iv).toNat)
 case atStart=>exact⟨0,ia,rfl,ic _ _ _ _,Vd⟩
 case round=>(obtain⟨j,hj,rfl,ho,hb⟩:=hrel;have hsz:=hb.out.size;obtain⟨ca,cc,hcv⟩:=Wd ho.out;subst hcv;by_cases hlt:j<d.length;{obtain⟨b,o,rfl,Rj,f0,f1,f2,f3,w1,w2',w3,w4⟩:=VG.out.at j hlt;have q0:=(hb.out.cell (p:=⟨b,o+j*4,none⟩) (by show b<w.heap.size;omega)).trans f0;have q1:=(hb.out.cell (p:=⟨b,o+j*4+1,none⟩) (by show b<w.heap.size;omega)).trans f1;have q2:=(hb.out.cell (p:=⟨b,o+j*4+2,none⟩) (by show b<w.heap.size;omega)).trans f2;have q3:=(hb.out.cell (p:=⟨b,o+j*4+3,none⟩) (by show b<w.heap.size;omega)).trans f3;(have eO:((d.take (j+1)).map Fa.lo).map iW=((d.take j).map Fa.lo).map iW++[iW d[j].lo]:=by rw[Ka hlt,Lb,Lb];rfl);have Y4:=da eO;clear f0 f1 f2 f3 w1 w2' w3 w4 eO;generalize d[j]=fa at*;have bK:=da ((ho.out.alloc (.cells #[.string fa.name,.int .i64 fa.kind,.int .i64 fa.lo,.int .i64 fa.hi] 83)).alloc (.cells #[.int .i64 fa.lo] 3));have Lc:Below w.heap.size w ((wr.alloc (.cells #[.string fa.name,.int .i64 fa.kind,.int .i64 fa.lo,.int .i64 fa.hi] 83)).alloc (.cells #[.int .i64 fa.lo] 3)):=(hb.out.alloc ia _).alloc (by simp;omega) _;have Qc:=da Lc;clear Lc;go_wp2_with (at_builtin;refine wpList_append_own_at _ Ha _ _ 29 Ha w.heap.size 3 i0 _ 1 8 Tryz.underlying29 hi0 hz0 hz1 hz2 rfl pa _ j _ Ha bK.out ⟨wr.heap.size+1,0,none⟩ 1 1 [iW fa.lo] Ha Ha (by have q:=Ai (w:=wr.alloc (.cells #[.string fa.name,.int .i64 fa.kind,.int .i64 fa.lo,.int .i64 fa.hi] 83)) (x:=iW fa.lo) (t:=3);rw[Ba]at q;exact q) (by intro u hu;simp at hu;subst hu;rfl) (by unfold maxLen;omega) ia (by simp;omega) ?_;intro v4 w4 Zn Wp xP mX;refine Hid.out ?_);refine da ?_;obtain⟨g4,oT,rfl,lZ,M4⟩:=Zn.form ia;have HOW:Hid (w4.ownsRow w.heap.size 3 1 (.slice (some ⟨g4,0,none⟩) (j+1) oT) (j+1) (((d.take (j+1)).map Fa.lo).map iW)):=by{show World.ownsRow _ _ _ _ _ _ _;rw[Y4.out];exact Zn};have Oe:Hid (Below w.heap.size w w4):=Qc.out.grown Wp (by have:=Qc.out.size;omega) (fun k hk=>(bK.out.lt k hk).1);clear Zn Wp xP mX;go_wp2;go_roundw;(case rel=>exact⟨j+1,ia,by go_num,HOW,Oe⟩);case measure=>simp[intOf];omega};{(obtain rfl:j=d.length:=ia);have HO3:=ho.out;rw[Jb]at HO3;have fI:=da HO3;clear HO3 ho;go_wp2;go_ret;exact⟨_,rfl,by rw[Sa];exact fI.out,hb.out⟩})
end Go.Proofs.YtejbgoigkefnfaaGreatDoor
