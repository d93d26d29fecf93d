/- The walk of regime.proper: when transitional rules are proper. Bounds on the number of rules and the conditions' sizes. -/
import Derived.Test.YtihniipjfdenbaaGreatDoorRgPA
set_option maxRecDepth 100000
set_option maxHeartbeats 4000000
namespace Go.Proofs.YtihniipjfdenbaaGreatDoor
open Go.RowKit
theorem isDay_any (n:Int)(w:World):Calls Tryz.prog 26 #[.int .i64 n] w fun e w'=>e=.returned (.bool (dayB n))/\ w=w':=by
 have HR:Hid (dayB n=(decide (0<=n)&& decide (n<=1000000))):=rfl;generalize dayB n=R at*
 cases g1:decide (0<=n)<;>cases g2:decide (n<=1000000)
 all_goals
  rw[g1,g2]at HR;go_enter Tryz.func26,Tryz.ntmps26;go_wp2;go_ret;exact⟨ret_bool HR.out.symm,rfl⟩
theorem rgName_any (s:ByteArray)(w:World)(hs:s.size<=maxLen):
  Calls Tryz.prog 58 #[.string s] w fun e w'=>e=.returned (.bool (nameB s))/\ w=w':=by
 unfold maxLen at hs;have HR:Hid (nameB s=(okAll s.data.toList 0&& !s.toList.isEmpty&& decide (s.size<=24))):=rfl;generalize nameB s=R at*
 go_enter Tryz.func58,Tryz.ntmps58;go_wp2
 go_loop [9] (fun i=>∃k:Nat,k<=s.size/\ i=.int .i64 k/\ Hid (okAll (s.data.toList.drop k) k=okAll s.data.toList 0)) (fun i=>s.size-(intOf i).toNat)
 case atStart=>exact⟨0,by omega,rfl,rfl⟩
 case round=>
  obtain⟨k,hk,rfl,hin⟩:=hrel;by_cases hlt:k<s.size
  ·have ho:=okAll_drop s k hlt
   rw[hin.out]at ho;have HO:=Lib.hid ho;clear ho hin;have hyes:okB k s[k].toNat=true->okAll (s.data.toList.drop (k+1)) (k+1)=okAll s.data.toList 0:=fun h=>by rw[HO.out,h,Bool.true_and]
   have hno:okB k s[k].toNat=false->R=false:=fun h=>by rw[HR.out,HO.out,h];simp
   have HY:=Lib.hid hyes;have HN:=Lib.hid hno;clear hyes hno HO HR;have hcl:=byte_cls (s[k].toNat:Int) (by omega) (by have:=s[k].toNat_lt;omega);by_cases hk0:k=0
   ·subst hk0
    rcases hcl with⟨hc,hc',t1,t2,t3,t4,t5,t6,t7⟩ | ⟨hc,hc',t1,t2,t3,t4,t5,t6,t7⟩ | ⟨hc,hc',t1,t2,t3,t4,t5,t6,t7⟩ | ⟨hc,hc',t1,t2,t3,t4,t5,t6,t7⟩ | ⟨hc,hc',t1,t2,t3,t4,t5,t6,t7⟩ | ⟨hc,hc',t1,t2,t3,t4,t5,t6,t7⟩ | ⟨hc,hc',t1,t2,t3,t4,t5,t6,t7⟩ | ⟨hc,hc',t1,t2,t3,t4,t5,t6,t7⟩ | ⟨hc,hc',t1,t2,t3,t4,t5,t6,t7⟩
    all_goals
     go_wp2
     first
     | (go_ret;exact⟨ret_bool (HN.out (decide_eq_false (by omega))).symm,rfl⟩)
     | (go_round;(case rel=>exact⟨0+1,by omega,by go_num,HY.out (decide_eq_true (by omega))⟩);(case measure=>first | (simp[intOf];omega) | simp[intOf]))
   ·have hkp:((k:Int)==0)=false:=by simp[hk0]
    have hkp':0<k:=by omega
    clear hk0;rcases hcl with⟨hc,hc',t1,t2,t3,t4,t5,t6,t7⟩ | ⟨hc,hc',t1,t2,t3,t4,t5,t6,t7⟩ | ⟨hc,hc',t1,t2,t3,t4,t5,t6,t7⟩ | ⟨hc,hc',t1,t2,t3,t4,t5,t6,t7⟩ | ⟨hc,hc',t1,t2,t3,t4,t5,t6,t7⟩ | ⟨hc,hc',t1,t2,t3,t4,t5,t6,t7⟩ | ⟨hc,hc',t1,t2,t3,t4,t5,t6,t7⟩ | ⟨hc,hc',t1,t2,t3,t4,t5,t6,t7⟩ | ⟨hc,hc',t1,t2,t3,t4,t5,t6,t7⟩
    all_goals
     go_wp2
     first
     | (go_ret;exact⟨ret_bool (HN.out (decide_eq_false (by omega))).symm,rfl⟩)
     | (go_round;(case rel=>exact⟨k+1,by omega,by go_num,HY.out (decide_eq_true (by omega))⟩);(case measure=>first | (simp[intOf];omega) | simp[intOf]))
  ·have HR2:Hid (R=(!s.toList.isEmpty&& decide (s.size<=24))):=by
    have h0:=hin.out;rw[List.drop_of_length_le (by simp;omega),okAll]at h0
    show _=_
    rw[HR.out, <-h0];simp
   clear hin HR;have hemp:=isEmpty_size s;by_cases h0:s.size=0
   {rw[decide_eq_true h0]at hemp;rw[hemp]at HR2;go_wp2;go_ret;exact⟨ret_bool (by rw[HR2.out];simp),rfl⟩}
   {rw[decide_eq_false h0]at hemp;rw[hemp]at HR2;by_cases h24:s.size<=24;{(have h24d:(s.size:Int)<=24:=by omega);rw[decide_eq_true h24]at HR2;go_wp2;go_ret;exact⟨ret_bool (by rw[HR2.out];simp),rfl⟩};{(have h24d:¬(s.size:Int)<=24:=by omega);rw[decide_eq_false h24]at HR2;clear h24;go_wp2;go_ret;exact⟨ret_bool (by rw[HR2.out];simp),rfl⟩}}
theorem look_offR {W:World}{b:Nat}{l:List (ByteArray×Bool)}(h:MapIs Value.string Value.bool W b l)(k:ByteArray)(hb:l.lookup k≠some true):(Instr.lookup 93 (.map (some b)) (.string k) false).run Tryz.prog W=.ok (.bool false) W:=by
 have q:=run_look MapSB.key Tryz.underlying93 zero_bool h k;cases hl:l.lookup k with| none=>rw[hl]at q;exact q| some x=>{cases x with| false=>rw[hl]at q;exact q| true=>exact absurd hl hb}
theorem rgName_any2 (s:ByteArray)(w:World)(hs:s.size<=maxLen)(b:Bool)(hb:nameB s=b):Calls Tryz.prog 58 #[.string s] w fun e w'=>e=.returned (.bool b)/\ w=w':=by
 subst hb;exact rgName_any s w hs
theorem isDay_any2 (n:Int)(w:World)(b:Bool)(hb:dayB n=b):Calls Tryz.prog 26 #[.int .i64 n] w fun e w'=>e=.returned (.bool b)/\ w=w':=by
 subst hb;exact isDay_any n w
theorem rgProper_any (d:List Fa)(l:List Chg)(v u:Value)(w:World)(B:Nat)(hB:B<=w.heap.size)(hl:SlIn ChR 9 w B l v)(hd:DomIn w B d u)(hsz:∀p∈l,p.cond.size<=1000000):
  Calls Tryz.prog 25 #[v,u] w fun e w'=>e=.returned (.bool (properC d l))/\ Below w.heap.size w w':=by
 obtain⟨u0,rfl,hd⟩:=hd;obtain⟨ad,cd,rfl,d1,d2,_⟩:=SlIn.shape hd;obtain⟨ap,cp,rfl,p1,p2,_⟩:=SlIn.shape hl;unfold maxLen at p2;have HBW:Hid (Below w.heap.size w (w.alloc (.cells #[.slice ad d.length cd] 25))):=(Below.refl _ _).alloc (Nat.le_refl _) _;have K0:=Lib.hid (Blk.new w 25 #[.slice ad d.length cd]);have x0:=K0.out.cell 0;have HP:=Lib.hid hl;have HDM:Hid (DomIn w B d (.agg #[.slice ad d.length cd])):=⟨_,rfl,hd⟩;have HVA:=Lib.hid (valid_any d _ (w.alloc (.cells #[.slice ad d.length cd] 25)) B (by simp;omega) (HDM.out.below (HBW.out.mono hB)));have HSZ:=Lib.hid hsz;obtain⟨R,hR⟩:∃R,properC d l=R:=⟨_,rfl⟩;rw[hR];have HR:Hid (properC d l=R):=hR;clear hd hl hsz hR;cases hv:validD d with
 | false=>{rw[hv]at HVA;(have HS:Hid (R=false):=by show _=_;rw[<-HR.out];unfold properC;rw[hv];rfl);clear HR;go_enter Tryz.func25,Tryz.ntmps25;go_wp2_with (go_at_call 50;refine HVA.out.mono ?_;rintro e w2 ⟨rfl,hb2⟩;have HB2:=Lib.hid (HBW.out.trans (hb2.mono (by simp)));have K2:=Lib.hid (K0.out.below hb2);have z0:=K2.out.cell 0;have hz2:w.heap.size<w2.heap.size:=(by have:=hb2.size;simp at this;omega);clear hb2);go_ret;exact⟨ret_bool HS.out.symm,HB2.out⟩}
 | true=>
  rw[hv]at HVA;by_cases hts:l.length<=60
  ·have gt:decide ((60:Int)<(l.length:Int))=false:=decide_eq_false (by omega)
   have HS:Hid (R=okCh d [] l):=by{show _=_;rw[<-HR.out];unfold properC;rw[hv,decide_eq_true hts];simp}
   clear HR;go_enter Tryz.func25,Tryz.ntmps25;have hmm:=@run_makeMap Tryz.prog;go_wp2_with (go_at_call 50;refine HVA.out.mono ?_;rintro e w2 ⟨rfl,hb2⟩;have HB2:=Lib.hid (HBW.out.trans (hb2.mono (by simp)));have K2:=Lib.hid (K0.out.below hb2);have z0:=K2.out.cell 0;have hz2:w.heap.size<w2.heap.size:=(by have:=hb2.size;simp at this;omega);clear hb2);have hM0:=MapIs.made (ek:=Value.string) (ev:=Value.bool) w2;have HB3:=Lib.hid (HB2.out.alloc (by omega) (.map #[] 0));have K3:=Lib.hid (K2.out.alloc (.map #[] 0));have hz3:w2.heap.size<(w2.alloc (.map #[] 0)).heap.size:=by simp
   clear z0
   go_loopw [19] (fun iv wr=>∃(k:Nat) (m:List (ByteArray×Bool)),k<=l.length/\ iv=.int .i64 k/\ Hid (R=okCh d m (l.drop k))/\ Hid (MapIs Value.string Value.bool wr w2.heap.size m)/\ Hid (Below w.heap.size w wr)/\ w2.heap.size<wr.heap.size/\ Hid (Blk wr w.heap.size 25 #[.slice ad d.length cd])) (fun iv _=>l.length-(intOf iv).toNat)
   case atStart=>exact⟨0,[],Nat.zero_le _,rfl,HS,hM0,HB3,hz3,K3⟩
   case round=>
    obtain⟨k,m,hk,rfl,HI,HM,HB,hsw,HK⟩:=hrel;have y0:=HK.out.cell 0;clear hM0;by_cases hlt:k<l.length
    ·obtain⟨b,off,rfl,hbB,ak,ck,hr,hf,hs1,hs2,_⟩:=SlIn.at (HP.out.below ChR.kept (HB.out.mono hB)) k hlt
     have hI:=HI.out;rw[List.drop_eq_getElem_cons hlt]at hI;have hsk:=HSZ.out l[k] (List.getElem_mem hlt);generalize l[k]=p at*
     have HIN:Hid (R=okCh d m (p::l.drop (k+1))):=hI;clear hI;unfold okCh at HIN;have HRG:=Lib.hid hr;have HS1:=Lib.hid hs1;have HS2:=Lib.hid hs2
     have HCK:Hid (∀W',Below wr.heap.size wr W'->Calls Tryz.prog 59 #[.agg #[.int .i64 p.cond.op,.string p.cond.name,.int .i64 p.cond.cmp,.int .i64 p.cond.n,.slice ak p.cond.kids.length ck],.agg #[.slice ad d.length cd],.slice none 0 0] W' fun e w''=>e=.returned (.int .i64 (checkF p.cond d (fun _=>false)))/\ Hid (Below W'.heap.size W' w'')):=fun W' hb=>by{have hbw:=HB.out.trans (hb.mono HB.out.size);exact checkP_any p.cond d [] _ _ _ W' B hsk (by have:=hbw.size;omega) (Fo.In.below (hb.mono (by have:=HB.out.size;omega)) _ _ hf) (HDM.out.below (hbw.mono hB)) ⟨none,0,rfl,Nat.le_refl _,Nat.zero_le _,fun h=>absurd rfl h⟩}
     clear hr hf hs1 hs2 hsk;have hmlt:=hsw;by_cases hb:m.lookup p.id=some true
     ·have HS9:Hid (R=false):=by show _=_;rw[HIN.out,if_pos (.inl hb)]
      clear HIN
      go_wp2_with (first
       | ((with_reducible show wpList _ _ _ (⟨_,Op.load 49 (.tmp 21),_,_,_,_⟩::_) _ _);refine wpList_load_ch rfl (.tmp 21) rfl rfl p ak ck HRG.out Tryz.underlying49 rfl Chg.info ?_)
       | (((with_reducible show wpList _ _ _ (⟨_,Op.store 49 (.tmp 7) (.tmp 22),_,_,_,_⟩::_) _ _);refine wpList_store_ch rfl (.tmp 7) (.tmp 22) rfl p ak ck rfl rfl ?hs1 Chg.info ?_;(case hs1=>rfl);intro W1 hb1 hz1 hr1 hf1;have e1_0:=hr1 0 _ rfl;have HR1:=Lib.hid hr1;clear hr1);have hlk:=run_look MapSB.key Tryz.underlying93 zero_bool (HM.out.below hb1 hmlt) p.id;rw[hb]at hlk))
      go_ret;exact⟨ret_bool HS9.out.symm,HB.out.trans (hb1.mono HB.out.size)⟩
     ·cases n1:nameB p.id with
      | false=>{(have HS9:Hid (R=false):=by show _=_;rw[HIN.out,if_pos (by simp[n1])]);clear HIN;go_wp2_with (first | ((with_reducible show wpList _ _ _ (⟨_,Op.load 49 (.tmp 21),_,_,_,_⟩::_) _ _);refine wpList_load_ch rfl (.tmp 21) rfl rfl p ak ck HRG.out Tryz.underlying49 rfl Chg.info ?_) | (((with_reducible show wpList _ _ _ (⟨_,Op.store 49 (.tmp 7) (.tmp 22),_,_,_,_⟩::_) _ _);refine wpList_store_ch rfl (.tmp 7) (.tmp 22) rfl p ak ck rfl rfl ?hs1 Chg.info ?_;(case hs1=>rfl);intro W1 hb1 hz1 hr1 hf1;have e1_0:=hr1 0 _ rfl;have e1_1:=hr1 1 _ rfl;have e1_2:=hr1 2 _ rfl;have e1_3:=hr1 3 _ rfl;have e1_4:=hr1 4 _ rfl;have e1_5:=hr1 5 _ rfl;have e1_6:=hr1 6 _ rfl;have e1_7:=hr1 7 _ rfl;have HR1:=Lib.hid hr1;clear hr1);have hlk:=look_offR (HM.out.below hb1 hmlt) p.id hb) | (go_at_call 58;refine(rgName_any2 _ _ (by first | with_reducible exact HS1.out | with_reducible exact HS2.out) _ (by first | with_reducible exact n1 | with_reducible exact n2)).mono ?_;rintro e w7 ⟨rfl,rfl⟩));go_ret;exact⟨ret_bool HS9.out.symm,HB.out.trans (hb1.mono HB.out.size)⟩}
      | true=>
       cases n2:nameB p.question with
       | false=>{(have HS9:Hid (R=false):=by show _=_;rw[HIN.out,if_pos (by simp[n2])]);clear HIN;go_wp2_with (first | ((with_reducible show wpList _ _ _ (⟨_,Op.load 49 (.tmp 21),_,_,_,_⟩::_) _ _);refine wpList_load_ch rfl (.tmp 21) rfl rfl p ak ck HRG.out Tryz.underlying49 rfl Chg.info ?_) | (((with_reducible show wpList _ _ _ (⟨_,Op.store 49 (.tmp 7) (.tmp 22),_,_,_,_⟩::_) _ _);refine wpList_store_ch rfl (.tmp 7) (.tmp 22) rfl p ak ck rfl rfl ?hs1 Chg.info ?_;(case hs1=>rfl);intro W1 hb1 hz1 hr1 hf1;have e1_0:=hr1 0 _ rfl;have e1_1:=hr1 1 _ rfl;have e1_2:=hr1 2 _ rfl;have e1_3:=hr1 3 _ rfl;have e1_4:=hr1 4 _ rfl;have e1_5:=hr1 5 _ rfl;have e1_6:=hr1 6 _ rfl;have e1_7:=hr1 7 _ rfl;have HR1:=Lib.hid hr1;clear hr1);have hlk:=look_offR (HM.out.below hb1 hmlt) p.id hb) | (go_at_call 58;refine(rgName_any2 _ _ (by first | with_reducible exact HS1.out | with_reducible exact HS2.out) _ (by first | with_reducible exact n1 | with_reducible exact n2)).mono ?_;rintro e w7 ⟨rfl,rfl⟩));go_ret;exact⟨ret_bool HS9.out.symm,HB.out.trans (hb1.mono HB.out.size)⟩}
       | true=>
        cases n3:dayB p.day with
        | false=>{(have HS9:Hid (R=false):=by show _=_;rw[HIN.out,if_pos (by simp[n3])]);clear HIN;go_wp2_with (first | ((with_reducible show wpList _ _ _ (⟨_,Op.load 49 (.tmp 21),_,_,_,_⟩::_) _ _);refine wpList_load_ch rfl (.tmp 21) rfl rfl p ak ck HRG.out Tryz.underlying49 rfl Chg.info ?_) | (((with_reducible show wpList _ _ _ (⟨_,Op.store 49 (.tmp 7) (.tmp 22),_,_,_,_⟩::_) _ _);refine wpList_store_ch rfl (.tmp 7) (.tmp 22) rfl p ak ck rfl rfl ?hs1 Chg.info ?_;(case hs1=>rfl);intro W1 hb1 hz1 hr1 hf1;have e1_0:=hr1 0 _ rfl;have e1_1:=hr1 1 _ rfl;have e1_2:=hr1 2 _ rfl;have e1_3:=hr1 3 _ rfl;have e1_4:=hr1 4 _ rfl;have e1_5:=hr1 5 _ rfl;have e1_6:=hr1 6 _ rfl;have e1_7:=hr1 7 _ rfl;have HR1:=Lib.hid hr1;clear hr1);have hlk:=look_offR (HM.out.below hb1 hmlt) p.id hb) | (go_at_call 58;refine(rgName_any2 _ _ (by first | with_reducible exact HS1.out | with_reducible exact HS2.out) _ (by first | with_reducible exact n1 | with_reducible exact n2)).mono ?_;rintro e w7 ⟨rfl,rfl⟩) | (go_at_call 26;refine(isDay_any2 p.day _ _ n3).mono ?_;rintro e w7 ⟨rfl,rfl⟩));go_ret;exact⟨ret_bool HS9.out.symm,HB.out.trans (hb1.mono HB.out.size)⟩}
        | true=>
         by_cases hE:checkF p.cond d (fun _=>false)=0
         ·have HIN2:Hid (R=okCh d (ins m p.id true) (l.drop (k+1))):=by show _=_;rw[HIN.out,if_neg (by simp[n1,n2,n3,hb,hE])]
          rw[hE]at HCK;clear HIN
          go_wp2_with (first
           | ((with_reducible show wpList _ _ _ (⟨_,Op.load 49 (.tmp 21),_,_,_,_⟩::_) _ _);refine wpList_load_ch rfl (.tmp 21) rfl rfl p ak ck HRG.out Tryz.underlying49 rfl Chg.info ?_) | ((((with_reducible show wpList _ _ _ (⟨_,Op.store 49 (.tmp 7) (.tmp 22),_,_,_,_⟩::_) _ _);refine wpList_store_ch rfl (.tmp 7) (.tmp 22) rfl p ak ck rfl rfl ?hs1 Chg.info ?_;(case hs1=>rfl);intro W1 hb1 hz1 hr1 hf1;have e1_0:=hr1 0 _ rfl;have e1_1:=hr1 1 _ rfl;have e1_2:=hr1 2 _ rfl;have e1_3:=hr1 3 _ rfl;have e1_4:=hr1 4 _ rfl;have e1_5:=hr1 5 _ rfl;have e1_6:=hr1 6 _ rfl;have e1_7:=hr1 7 _ rfl;have HR1:=Lib.hid hr1;clear hr1);have hlk:=look_offR (HM.out.below hb1 hmlt) p.id hb);have K1:=Lib.hid (HK.out.below hb1);have v0:=K1.out.cell 0;have HM1:=Lib.hid (HM.out.below hb1 hmlt);have HC1:=HCK.out _ hb1;clear y0) | (go_at_call 58;refine(rgName_any2 _ _ (by first | with_reducible exact HS1.out | with_reducible exact HS2.out) _ (by first | with_reducible exact n1 | with_reducible exact n2)).mono ?_;rintro e w7 ⟨rfl,rfl⟩) | (go_at_call 26;refine(isDay_any2 p.day _ _ n3).mono ?_;rintro e w7 ⟨rfl,rfl⟩)
           | (go_at_call 59;refine HC1.mono ?_;rintro e w3 ⟨rfl,hb3⟩;have q0:=(hb3.out.cell (p:=⟨wr.heap.size,0,none⟩) (by show wr.heap.size<W1.heap.size;omega)).trans e1_0;have HM3:=Lib.hid (HM1.out.below hb3.out (by omega));have K3:=Lib.hid (K1.out.below hb3.out))
           | ((with_reducible show wpList _ _ _ (⟨_,Op.mapUpdate 93 _ _ _,_,_,_,_⟩::_) _ _);refine wpList_put rfl (.tmp 52) (.tmp 54) (.const (.bool true)) rfl MapSB.key Tryz.underlying93 HM3.out p.id true rfl rfl rfl ?_;intro W4 hm4 hu4))
          have HB4:=Lib.hid (((HB.out.trans (hb1.mono HB.out.size)).trans (hb3.out.mono (by have:=hb1.size;have:=HB.out.size;omega))).trans (hu4.below (by omega)));have HK4:=Lib.hid (show Blk W4 w.heap.size 25 _ from(hu4.block w.heap.size (by omega)).trans K3.out);have hs4:w2.heap.size<W4.heap.size:=by rw[hu4.size];have:=hb3.out.size;omega
          have HM4:=Lib.hid hm4;go_roundw
          case rel=>exact⟨k+1,_,by omega,by go_num,HIN2,HM4,HB4,hs4,HK4⟩
          case measure=>simp[intOf];omega
         ·have HS9:Hid (R=false):=by show _=_;rw[HIN.out,if_pos (by simp[hE])]
          have gE:(checkF p.cond d (fun _=>false) !=0)=true:=by simpa using hE
          clear HIN
          go_wp2_with (first
           | ((with_reducible show wpList _ _ _ (⟨_,Op.load 49 (.tmp 21),_,_,_,_⟩::_) _ _);refine wpList_load_ch rfl (.tmp 21) rfl rfl p ak ck HRG.out Tryz.underlying49 rfl Chg.info ?_) | ((((with_reducible show wpList _ _ _ (⟨_,Op.store 49 (.tmp 7) (.tmp 22),_,_,_,_⟩::_) _ _);refine wpList_store_ch rfl (.tmp 7) (.tmp 22) rfl p ak ck rfl rfl ?hs1 Chg.info ?_;(case hs1=>rfl);intro W1 hb1 hz1 hr1 hf1;have e1_0:=hr1 0 _ rfl;have e1_1:=hr1 1 _ rfl;have e1_2:=hr1 2 _ rfl;have e1_3:=hr1 3 _ rfl;have e1_4:=hr1 4 _ rfl;have e1_5:=hr1 5 _ rfl;have e1_6:=hr1 6 _ rfl;have e1_7:=hr1 7 _ rfl;have HR1:=Lib.hid hr1;clear hr1);have hlk:=look_offR (HM.out.below hb1 hmlt) p.id hb);have K1:=Lib.hid (HK.out.below hb1);have v0:=K1.out.cell 0;have HC1:=HCK.out _ hb1;clear y0) | (go_at_call 58;refine(rgName_any2 _ _ (by first | with_reducible exact HS1.out | with_reducible exact HS2.out) _ (by first | with_reducible exact n1 | with_reducible exact n2)).mono ?_;rintro e w7 ⟨rfl,rfl⟩) | (go_at_call 26;refine(isDay_any2 p.day _ _ n3).mono ?_;rintro e w7 ⟨rfl,rfl⟩)
           | (go_at_call 59;refine HC1.mono ?_;rintro e w3 ⟨rfl,hb3⟩))
          go_ret;exact⟨ret_bool HS9.out.symm,(HB.out.trans (hb1.mono HB.out.size)).trans (hb3.out.mono (by have:=hb1.size;have:=HB.out.size;omega))⟩
    ·have HS9:Hid (R=true):=by
      show _=_
      rw[HI.out,List.drop_of_length_le (by omega)];rfl
     go_wp2;go_ret;exact⟨ret_bool HS9.out.symm,HB.out⟩
  {have gt:decide ((60:Int)<(l.length:Int))=true:=decide_eq_true (by omega);have HS:Hid (R=false):=by{show _=_;rw[<-HR.out];unfold properC;rw[decide_eq_false hts];simp};clear HR;go_enter Tryz.func25,Tryz.ntmps25;go_wp2_with (go_at_call 50;refine HVA.out.mono ?_;rintro e w2 ⟨rfl,hb2⟩;have HB2:=Lib.hid (HBW.out.trans (hb2.mono (by simp)));have K2:=Lib.hid (K0.out.below hb2);have z0:=K2.out.cell 0;have hz2:w.heap.size<w2.heap.size:=(by have:=hb2.size;simp at this;omega);clear hb2);go_ret;exact⟨ret_bool HS.out.symm,HB2.out⟩}
end Go.Proofs.YtihniipjfdenbaaGreatDoor
