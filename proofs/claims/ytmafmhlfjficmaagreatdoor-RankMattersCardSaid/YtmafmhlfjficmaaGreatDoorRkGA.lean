/- The walks of law15's few and beats, of pandectref15.Inside. Bounds on the provisions. -/
import Derived.Test.YtmafmhlfjficmaaGreatDoorRkAA
import Derived.Test.YtmafmhlfjficmaaGreatDoorFewA
import Derived.Test.YtmafmhlfjficmaaGreatDoorRkPA
set_option maxRecDepth 100000
set_option maxHeartbeats 4000000
namespace Go.Proofs.YtmafmhlfjficmaaGreatDoor
section
open Go.RowKit
theorem look_off {W:World}{b:Nat}{l:List (ByteArray×Bool)}(h:MapIs Value.string Value.bool W b l)(k:ByteArray)(hb:l.lookup k≠some true):(Instr.lookup 96 (.map (some b)) (.string k) false).run Tryz.prog W=.ok (.bool false) W:=by
 have q:=run_look MapSB.key Tryz.underlying96 zero_bool h k;cases hl:l.lookup k with
 | none=>rw[hl]at q;exact q
 | some x=>
  cases x with
  | false=>rw[hl]at q;exact q
  | true=>exact absurd hl hb
theorem rkProper_any (d:List Fa)(ps:List Pv)(ts:List Int)(v:Value)(w:World)(B:Nat)(hn:ps.length<=1000)(hB:B<=w.heap.size)(hl:LawT w B d ps ts v)(hsz:∀p∈ps,p.cond.size<=1000000):
  Calls Tryz.prog 51 #[v] w fun e w'=>e=.returned (.bool (properL d ps ts.length))/\ Below w.heap.size w w':=by
 obtain⟨u1,u2,u3,rfl,hd,hp,ht⟩:=hl;obtain⟨ad,cd,rfl,d1,d2,_⟩:=SlIn.shape hd;obtain⟨ap,cp,rfl,p1,p2,_⟩:=SlIn.shape hp;obtain⟨at_,ct,rfl,t1,t2,_⟩:=SlIn.shape ht;unfold maxLen at p2;have HBW:Hid (Below w.heap.size w (w.alloc (.cells #[.slice ad d.length cd,.slice ap ps.length cp,.slice at_ ts.length ct] 28))):=(Below.refl _ _).alloc (Nat.le_refl _) _;have K0:=Lib.hid (Blk.new w 28 #[.slice ad d.length cd,.slice ap ps.length cp,.slice at_ ts.length ct]);have x0:=K0.out.cell 0;have x1:=K0.out.cell 1;have x2:=K0.out.cell 2;have HP:=Lib.hid hp;have HDM:Hid (DomIn w B d (.agg #[.slice ad d.length cd])):=⟨_,rfl,hd⟩;have HVA:=Lib.hid (valid_any d _ (w.alloc (.cells #[.slice ad d.length cd,.slice ap ps.length cp,.slice at_ ts.length ct] 28)) B (by simp;omega) (HDM.out.below (HBW.out.mono hB)));have HSZ:=Lib.hid hsz;obtain⟨R,hR⟩:∃R,properL d ps ts.length=R:=⟨_,rfl⟩;rw[hR];have HR:Hid (properL d ps ts.length=R):=hR;have hn2:decide ((2000:Int)<(ps.length:Int))=false:=decide_eq_false (by omega);clear hd hp ht hsz hR;cases hv:validD d with
 | false=>
  rw[hv]at HVA;have HS:Hid (R=false):=by show _=_;rw[<-HR.out];unfold properL;rw[hv];rfl
  clear HR;go_enter Tryz.func51,Tryz.ntmps51;go_wp2_with (go_at_call 39;refine HVA.out.mono ?_;rintro e w2 ⟨rfl,hb2⟩;have HB2:=Lib.hid (HBW.out.trans (hb2.mono (by simp)));have K2:=Lib.hid (K0.out.below hb2);have z0:=K2.out.cell 0;have z1:=K2.out.cell 1;have z2:=K2.out.cell 2;have hz2:w.heap.size<w2.heap.size:=(by have:=hb2.size;simp at this;omega);clear hb2);go_ret;exact⟨ret_bool HS.out.symm,HB2.out⟩
 | true=>
  rw[hv]at HVA;by_cases hts:ts.length=ps.length
  ·have gt:((ts.length:Int) !=(ps.length:Int))=false:=by simp;omega
   have HS:Hid (R=okRk d [] ps):=by
    show _=_
    rw[<-HR.out];unfold properL;rw[hv,decide_eq_true (show ps.length<=2000 by omega),decide_eq_true hts];simp
   clear HR hts;go_enter Tryz.func51,Tryz.ntmps51;have hmm:=@run_makeMap Tryz.prog;go_wp2_with (go_at_call 39;refine HVA.out.mono ?_;rintro e w2 ⟨rfl,hb2⟩;have HB2:=Lib.hid (HBW.out.trans (hb2.mono (by simp)));have K2:=Lib.hid (K0.out.below hb2);have z0:=K2.out.cell 0;have z1:=K2.out.cell 1;have z2:=K2.out.cell 2;have hz2:w.heap.size<w2.heap.size:=(by have:=hb2.size;simp at this;omega);clear hb2);have hM0:=MapIs.made (ek:=Value.string) (ev:=Value.bool) w2;have HB3:=Lib.hid (HB2.out.alloc (by omega) (.map #[] 0));have K3:=Lib.hid (K2.out.alloc (.map #[] 0));have hz3:w2.heap.size<(w2.alloc (.map #[] 0)).heap.size:=by simp
   clear z0 z1 z2
   go_loopw [29] (fun iv wr=>∃(k:Nat) (m:List (ByteArray×Bool)),k<=ps.length/\ iv=.int .i64 k/\ Hid (R=okRk d m (ps.drop k))/\ Hid (MapIs Value.string Value.bool wr w2.heap.size m)/\ Hid (Below w.heap.size w wr)/\ w2.heap.size<wr.heap.size/\ Hid (Blk wr w.heap.size 28 #[.slice ad d.length cd,.slice ap ps.length cp,.slice at_ ts.length ct])) (fun iv _=>ps.length-(intOf iv).toNat)
   case atStart=>exact⟨0,[],Nat.zero_le _,rfl,HS,hM0,HB3,hz3,K3⟩
   case round=>
    obtain⟨k,m,hk,rfl,HI,HM,HB,hsw,HK⟩:=hrel;have y0:=HK.out.cell 0;have y1:=HK.out.cell 1;have y2:=HK.out.cell 2;clear hM0;by_cases hlt:k<ps.length
    ·obtain⟨b,off,rfl,hbB,ak,ck,ae,ce,hr,hf,he,hzz⟩:=SlIn.at (HP.out.below PvR.kept (HB.out.mono hB)) k hlt
     have hI:=HI.out;rw[List.drop_eq_getElem_cons hlt]at hI;have hsk:=HSZ.out ps[k] (List.getElem_mem hlt);generalize ps[k]=p at*
     have HIN:Hid (R=okRk d m (p::ps.drop (k+1))):=hI;clear hI;unfold okRk at HIN;have HRG:=Lib.hid hr
     have HCK:Hid (∀W',Below wr.heap.size wr W'->Calls Tryz.prog 67 #[.agg #[.int .i64 p.cond.op,.string p.cond.name,.int .i64 p.cond.cmp,.int .i64 p.cond.n,.slice ak p.cond.kids.length ck],.agg #[.slice ad d.length cd],.slice none 0 0] W' fun e w''=>e=.returned (.int .i64 (checkF p.cond d (fun _=>false)))/\ Hid (Below W'.heap.size W' w'')):=fun W' hb=>by
      have hbw:=HB.out.trans (hb.mono HB.out.size);exact checkP_any p.cond d [] _ _ _ W' B hsk (by have:=hbw.size;omega) (Fo.In.below (hb.mono (by have:=HB.out.size;omega)) _ _ hf) (HDM.out.below (hbw.mono hB)) ⟨none,0,rfl,Nat.le_refl _,Nat.zero_le _,fun h=>absurd rfl h⟩
     clear hr hf he hzz hsk;have hmlt:=hsw;by_cases hb:m.lookup p.id=some true
     ·have HS9:Hid (R=false):=by show _=_;rw[HIN.out,if_pos (.inl hb)]
      clear HIN
      go_wp2_with (first
       | ((with_reducible show wpList _ _ _ (⟨_,Op.load 50 (.tmp 31),_,_,_,_⟩::_) _ _);refine wpList_load_pv rfl (.tmp 31) rfl rfl p ak ck ae ce HRG.out Tryz.underlying50 rfl Pv.info ?_)
       | (((with_reducible show wpList _ _ _ (⟨_,Op.store 50 (.tmp 5) (.tmp 32),_,_,_,_⟩::_) _ _);refine wpList_store_pv rfl (.tmp 5) (.tmp 32) rfl p ak ck ae ce rfl rfl ?hs1 Pv.info ?_;(case hs1=>rfl);intro W1 hb1 hz1 hr1 hf1;have e1_0:=hr1 0 _ rfl;have HR1:=Lib.hid hr1;clear hr1);have hlk:=run_look MapSB.key Tryz.underlying96 zero_bool (HM.out.below hb1 hmlt) p.id;rw[hb]at hlk))
      go_ret;exact⟨ret_bool HS9.out.symm,HB.out.trans (hb1.mono HB.out.size)⟩
     ·by_cases hE:checkF p.cond d (fun _=>false)=0
      ·have HIN2:Hid (R=okRk d (ins m p.id true) (ps.drop (k+1))):=by show _=_;rw[HIN.out,if_neg (by simp[hb,hE])]
       rw[hE]at HCK;clear HIN
       go_wp2_with (first
        | ((with_reducible show wpList _ _ _ (⟨_,Op.load 50 (.tmp 31),_,_,_,_⟩::_) _ _);refine wpList_load_pv rfl (.tmp 31) rfl rfl p ak ck ae ce HRG.out Tryz.underlying50 rfl Pv.info ?_)
        | (((with_reducible show wpList _ _ _ (⟨_,Op.store 50 (.tmp 5) (.tmp 32),_,_,_,_⟩::_) _ _);refine wpList_store_pv rfl (.tmp 5) (.tmp 32) rfl p ak ck ae ce rfl rfl ?hs1 Pv.info ?_;(case hs1=>rfl);intro W1 hb1 hz1 hr1 hf1;have e1_0:=hr1 0 _ rfl;have e1_5:=hr1 5 _ rfl;have e1_6:=hr1 6 _ rfl;have e1_7:=hr1 7 _ rfl;have e1_8:=hr1 8 _ rfl;have e1_9:=hr1 9 _ rfl;have HR1:=Lib.hid hr1;clear hr1);have hlk:=look_off (HM.out.below hb1 hmlt) p.id hb;have K1:=Lib.hid (HK.out.below hb1);have v0:=K1.out.cell 0;have v1:=K1.out.cell 1;have HM1:=Lib.hid (HM.out.below hb1 hmlt);have HC1:=HCK.out _ hb1;clear y0 y1 y2)
        | (go_at_call 67;refine HC1.mono ?_;rintro e w3 ⟨rfl,hb3⟩;have q0:=(hb3.out.cell (p:=⟨wr.heap.size,0,none⟩) (by show wr.heap.size<W1.heap.size;omega)).trans e1_0;have HM3:=Lib.hid (HM1.out.below hb3.out (by omega));have K3:=Lib.hid (K1.out.below hb3.out))
        | ((with_reducible show wpList _ _ _ (⟨_,Op.mapUpdate 96 _ _ _,_,_,_,_⟩::_) _ _);refine wpList_put rfl (.tmp 45) (.tmp 47) (.const (.bool true)) rfl MapSB.key Tryz.underlying96 HM3.out p.id true rfl rfl rfl ?_;intro W4 hm4 hu4))
       have HB4:=Lib.hid (((HB.out.trans (hb1.mono HB.out.size)).trans (hb3.out.mono (by have:=hb1.size;have:=HB.out.size;omega))).trans (hu4.below (by omega)));have HK4:=Lib.hid (show Blk W4 w.heap.size 28 _ from(hu4.block w.heap.size (by omega)).trans K3.out);have hs4:w2.heap.size<W4.heap.size:=by rw[hu4.size];have:=hb3.out.size;omega
       have HM4:=Lib.hid hm4;go_roundw
       case rel=>exact⟨k+1,_,by omega,by go_num,HIN2,HM4,HB4,hs4,HK4⟩
       case measure=>simp[intOf];omega
      ·have HS9:Hid (R=false):=by show _=_;rw[HIN.out,if_pos (.inr hE)]
       have gE:(checkF p.cond d (fun _=>false) !=0)=true:=by simpa using hE
       clear HIN
       go_wp2_with (first
        | ((with_reducible show wpList _ _ _ (⟨_,Op.load 50 (.tmp 31),_,_,_,_⟩::_) _ _);refine wpList_load_pv rfl (.tmp 31) rfl rfl p ak ck ae ce HRG.out Tryz.underlying50 rfl Pv.info ?_)
        | (((with_reducible show wpList _ _ _ (⟨_,Op.store 50 (.tmp 5) (.tmp 32),_,_,_,_⟩::_) _ _);refine wpList_store_pv rfl (.tmp 5) (.tmp 32) rfl p ak ck ae ce rfl rfl ?hs1 Pv.info ?_;(case hs1=>rfl);intro W1 hb1 hz1 hr1 hf1;have e1_0:=hr1 0 _ rfl;have e1_5:=hr1 5 _ rfl;have e1_6:=hr1 6 _ rfl;have e1_7:=hr1 7 _ rfl;have e1_8:=hr1 8 _ rfl;have e1_9:=hr1 9 _ rfl;have HR1:=Lib.hid hr1;clear hr1);have hlk:=look_off (HM.out.below hb1 hmlt) p.id hb;have K1:=Lib.hid (HK.out.below hb1);have v0:=K1.out.cell 0;have HC1:=HCK.out _ hb1;clear y0 y1 y2)
        | (go_at_call 67;refine HC1.mono ?_;rintro e w3 ⟨rfl,hb3⟩))
       go_ret;exact⟨ret_bool HS9.out.symm,(HB.out.trans (hb1.mono HB.out.size)).trans (hb3.out.mono (by have:=hb1.size;have:=HB.out.size;omega))⟩
    ·have HS9:Hid (R=true):=by
      show _=_
      rw[HI.out,List.drop_of_length_le (by omega)];rfl
     go_wp2;go_ret;exact⟨ret_bool HS9.out.symm,HB.out⟩
  ·have gt:((ts.length:Int) !=(ps.length:Int))=true:=by simp;omega
   have HS:Hid (R=false):=by
    show _=_
    rw[<-HR.out];unfold properL;rw[decide_eq_false hts];simp
   clear HR;go_enter Tryz.func51,Tryz.ntmps51;go_wp2_with (go_at_call 39;refine HVA.out.mono ?_;rintro e w2 ⟨rfl,hb2⟩;have HB2:=Lib.hid (HBW.out.trans (hb2.mono (by simp)));have K2:=Lib.hid (K0.out.below hb2);have z0:=K2.out.cell 0;have z1:=K2.out.cell 1;have z2:=K2.out.cell 2;have hz2:w.heap.size<w2.heap.size:=(by have:=hb2.size;simp at this;omega);clear hb2);go_ret;exact⟨ret_bool HS.out.symm,HB2.out⟩
end
section
open Go.RowKit
def insideAll (ps:List Pv)(l:List Int):Bool:=l.all fun i=>decide (0<=i)&& decide (i<(ps.length:Int))
structure OpenIs (w' : World) (B : Nat) (d : List Fa) (ps : List Pv) (ts : List Int) (x : Option Addr) : Prop where
 is:∃CB KB c0 c1 c2,x=some ⟨CB,0,none⟩/\ CtE w' B CB KB d ps ts c0 c1 c2/\ StK w' KB d ps w'
theorem open_any (d:List Fa)(ps:List Pv)(ts:List Int)(l:List Int)(v u:Value)(w:World)(B:Nat)(hn:ps.length<=1000)(hB:B<=w.heap.size)(hl:LawT w B d ps ts v)(hu:IntsIn w w.heap.size l u)(hll:l.length<=1000)(hsz:∀p∈ps,p.cond.size<=1000000)(hT:TabH B w):
  Calls Tryz.prog 31 #[v,u] w fun e w'=>∃x:Option Addr,e=.returned (.tuple #[.pointer x,.int .i64 (if properL d ps ts.length=true/\ insideAll ps l=true then 0 else 1)])/\ Below w.heap.size w w'/\ (properL d ps ts.length=true/\ insideAll ps l=true->Hid (OpenIs w' B d ps ts x)):=by
 have HL:=Lib.hid hl;obtain⟨u1,u2,u3,rfl,hd,hp,ht⟩:=hl;obtain⟨ad,cd,rfl,d1,d2,_⟩:=SlIn.shape hd;obtain⟨ap,cp,rfl,p1,p2,_⟩:=SlIn.shape hp;obtain⟨at_,ct,rfl,t1,t2,_⟩:=SlIn.shape ht;obtain⟨ai,ci,rfl,i1,i2,_⟩:=SlIn.shape hu;have HBW:Hid (Below w.heap.size w (w.alloc (.cells #[.slice ad d.length cd,.slice ap ps.length cp,.slice at_ ts.length ct] 28))):=(Below.refl _ _).alloc (Nat.le_refl _) _;have K0:=Lib.hid (Blk.new w 28 #[.slice ad d.length cd,.slice ap ps.length cp,.slice at_ ts.length ct]);have x0:=K0.out.cell 0;have x1:=K0.out.cell 1;have x2:=K0.out.cell 2;have HU:=Lib.hid hu;have HD:=Lib.hid hd;have HP:=Lib.hid hp;have HTS:=Lib.hid ht;have HT:=Lib.hid hT;have HPR:=Lib.hid (fun(_:Unit)=>rkProper_any d ps ts _ (w.alloc (.cells #[.slice ad d.length cd,.slice ap ps.length cp,.slice at_ ts.length ct] 28)) B hn (by simp;omega) (HL.out.below (HBW.out.mono hB)) hsz);have HPR:=Lib.hid (fun(_:Nat)=>HPR.out ());obtain⟨PO,hPO⟩:∃PO:Prop,(properL d ps ts.length=true/\ insideAll ps l=true)=PO:=⟨_,rfl⟩;obtain⟨ER,hER⟩:∃ER:Int,(if properL d ps ts.length=true/\ insideAll ps l=true then(0:Int)else 1)=ER:=⟨_,rfl⟩;rw[hER,hPO];have HER:=Lib.hid hER;have HPO:=Lib.hid hPO;clear hd hp ht hu hsz hT hER hPO;cases hpr:properL d ps ts.length with
 | false=>
  rw[hpr]at HPR;have HPR:=Lib.hid (HPR.out 0);have HE1:Hid (ER=1):=by show _=_;rw[<-HER.out,hpr];simp
  have HN:Hid (¬PO):=by show ¬PO;rw[<-HPO.out,hpr];simp
  clear hpr HER HPO;go_enter Tryz.func31,Tryz.ntmps31;go_wp2_with (go_at_call 51;refine HPR.out.mono ?_;rintro e w2 ⟨rfl,hb2⟩;have HB2:=Lib.hid (HBW.out.trans (hb2.mono (by simp))));go_ret2;exact⟨_,by rw[HE1.out];rfl,HB2.out,fun h=>absurd h HN.out⟩
 | true=>
  rw[hpr]at HPR;rw[hpr]at HER HPO;have HPR:=Lib.hid (HPR.out 0);clear hpr;go_enter Tryz.func31,Tryz.ntmps31;go_wp2_with (go_at_call 51;refine HPR.out.mono ?_;rintro e w2 ⟨rfl,hb2⟩;have HB2:=Lib.hid (HBW.out.trans (hb2.mono (by simp)));have K2:=Lib.hid (K0.out.below hb2);have hz2:w.heap.size<w2.heap.size:=(by have:=hb2.size;simp at this;omega));have HUB:=Lib.hid (SlIn.below (OneR.kept _) HB2.out HU.out);have z0:=K2.out.cell 0;have z1:=K2.out.cell 1;have z2:=K2.out.cell 2;clear hb2 x0 x1 x2
  go_loopw [7,13] (fun s7 iv wr=>∃k:Nat,k<=l.length/\ iv=.int .i64 k/\ wr=w2/\ Hid ((l.take k).all (fun i=>decide (0<=i)&& decide (i<(ps.length:Int)))=true)) (fun _ iv _=>l.length-(intOf iv).toNat)
  case atStart=>exact⟨0,Nat.zero_le _,rfl,rfl,rfl⟩
  case round=>
   obtain⟨k,hk,rfl,hwr,hal⟩:=hrel;subst hwr;by_cases hlt:k<l.length
   ·obtain⟨ib,io,rfl,_,q1⟩:=SlIn.one HUB.out k hlt
    have ht:=List.take_succ_eq_append_getElem hlt;generalize hx:l[k]=x at*
    have HTK:=Lib.hid ht;have HMEM:Hid (x∈l):=by rw[<-hx];exact List.getElem_mem hlt
    clear ht hx;by_cases h0:x<0
    ·have g0:decide (x<0)=true:=decide_eq_true h0
     have HNO:Hid (insideAll ps l=false):=by
      cases h:insideAll ps l with
      | false=>exact rfl
      | true=>have:=List.all_eq_true.1 h x HMEM.out;simp at this;omega
     go_wp2;go_ret2;exact⟨_,by rw[<-HER.out,HNO.out];rfl,HB2.out,fun h=>by rw[<-HPO.out,HNO.out]at h;cases h.2⟩
    ·have g0:decide (x<0)=false:=decide_eq_false h0
     by_cases h1:(ps.length:Int)<=x
     ·have g1:decide ((ps.length:Int)<=x)=true:=decide_eq_true h1
      have HNO:Hid (insideAll ps l=false):=by
       cases h:insideAll ps l with
       | false=>exact rfl
       | true=>have:=List.all_eq_true.1 h x HMEM.out;simp at this;omega
      go_wp2;go_ret2;exact⟨_,by rw[<-HER.out,HNO.out];rfl,HB2.out,fun h=>by rw[<-HPO.out,HNO.out]at h;cases h.2⟩
     ·have g1:decide ((ps.length:Int)<=x)=false:=decide_eq_false h1
      have HAL:Hid ((l.take (k+1)).all (fun i=>decide (0<=i)&& decide (i<(ps.length:Int)))=true):=by
       show _=_
       rw[HTK.out,List.all_append,hal.out]
       simp;omega
      go_wp2;go_roundw
      case rel=>exact⟨k+1,by omega,by go_num,by trivial,HAL⟩
      case measure=>simp[intOf];omega
   ·have HYES:Hid (insideAll ps l=true):=by
     have:=hal.out;rw[List.take_of_length_le (by omega)]at this;exact this
    have hmm:=@run_makeMap Tryz.prog;go_wp2;go_ret2;have hb4:Below wr.heap.size wr ((wr.alloc (.map #[] 0)).alloc (.cells #[.slice ad d.length cd,.slice ap ps.length cp,.slice at_ ts.length ct,.map (some wr.heap.size)] 88)):=two_below _ _ _;have hbw:=HB2.out.trans (hb4.mono HB2.out.size);have hs2:=HB2.out.size;refine⟨_,by rw[<-HER.out,HYES.out];rfl,hbw,fun _=>⟨_,_,_,_,_,rfl,⟨(hd_two wr _ _ _).out,HD.out.below FaR.kept (hbw.mono hB),HP.out.below PvR.kept (hbw.mono hB),HTS.out.below (OneR.kept _) (hbw.mono hB),by omega,by omega,by omega,by simp;omega,HT.out.on (hbw.mono hB)⟩,StK.first ((MapIs.made wr).alloc _) rfl⟩⟩
end
section
open Go.RowKit
theorem inside_two (ps:List Pv)(a b:Int):insideAll ps [a,b]=insideL ps a b:=by
 unfold insideAll insideL;simp[Bool.and_assoc]
theorem two_ints (w:World)(a b:Int):IntsIn (w.alloc (.cells #[.int .i64 a,.int .i64 b] 3)) (w.alloc (.cells #[.int .i64 a,.int .i64 b] 3)).heap.size [a,b] (.slice (some ⟨w.heap.size,0,none⟩) 2 2):=by
 refine⟨_,2,rfl,Nat.le_refl _,by decide,fun _=>⟨w.heap.size,0,rfl,by simp,fun i hi=>?_⟩⟩;have K:=Blk.new w 3 #[.int .i64 a,.int .i64 b]
 match i,hi with
 | 0,_=>exact K.cell 0
 | 1,_=>exact K.cell 1
theorem why_any (d:List Fa)(ps:List Pv)(ts:List Int)(a b:Int)(v:Value)(w:World)(hn:ps.length<=1000)(hl:LawT w w.heap.size d ps ts v)(hsz:∀p∈ps,p.cond.size<=1000000)(hT:TabH w.heap.size w):
  Calls Tryz.prog 14 #[v,.int .i64 a,.int .i64 b] w fun e w'=>e=.returned (.tuple #[.int .i64 (whyA d ps ts a b).1,.int .i64 (whyA d ps ts a b).2])/\ Below w.heap.size w w':=by
 have HL:=Lib.hid hl;obtain⟨u1,u2,u3,rfl,hd,hp,ht⟩:=hl;obtain⟨ad,cd,rfl,_⟩:=SlIn.shape hd;obtain⟨ap,cp,rfl,_⟩:=SlIn.shape hp;obtain⟨at_,ct,rfl,_⟩:=SlIn.shape ht;have HB2:Hid (Below w.heap.size w ((w.alloc (.cells #[.slice ad d.length cd,.slice ap ps.length cp,.slice at_ ts.length ct] 28)).alloc (.cells #[.int .i64 a,.int .i64 b] 3))):=two_below _ _ _;have HOP:=Lib.hid (open_any d ps ts [a,b] _ _ ((w.alloc (.cells #[.slice ad d.length cd,.slice ap ps.length cp,.slice at_ ts.length ct] 28)).alloc (.cells #[.int .i64 a,.int .i64 b] 3)) w.heap.size hn HB2.out.size (HL.out.below HB2.out) (two_ints _ a b) (by simp) hsz (hT.on HB2.out));have x0:=((Blk.new w 28 #[.slice ad d.length cd,.slice ap ps.length cp,.slice at_ ts.length ct]).alloc (.cells #[.int .i64 a,.int .i64 b] 3)).cell 0;have y0:=(Blk.new w 28 #[.slice ad d.length cd,.slice ap ps.length cp,.slice at_ ts.length ct]).cell 0;have y1:=(Blk.new w 28 #[.slice ad d.length cd,.slice ap ps.length cp,.slice at_ ts.length ct]).cell 1;have y2:=(Blk.new w 28 #[.slice ad d.length cd,.slice ap ps.length cp,.slice at_ ts.length ct]).cell 2;obtain⟨R,hR⟩:∃R,whyA d ps ts a b=R:=⟨_,rfl⟩;rw[hR];have HR:Hid (whyA d ps ts a b=R):=hR;have HSZ:=Lib.hid hsz;rw[World.size_alloc]at HOP;clear hd hp ht hsz hT hR;by_cases hok:properL d ps ts.length=true/\ insideAll ps [a,b]=true
 ·rw[if_pos hok]at HOP
  have HOK:=Lib.hid hok;clear hok;go_enter Tryz.func14,Tryz.ntmps14;go_upto_region 4 with(go_at_call 31;refine HOP.out.mono ?_;rintro e w3 ⟨x,rfl,hb3,ho⟩;obtain⟨CB,KB,c0,c1,c2,rfl,HE,HS⟩:=(ho HOK.out).out.is);have hin:=HOK.out.2;rw[inside_two]at hin;unfold insideL at hin;simp only[Bool.and_eq_true,decide_eq_true_eq]at hin;obtain⟨⟨⟨i1,i2⟩,i3⟩,i4⟩:=hin;have hpl:=proper_ok HOK.out.1;have HW:=Lib.hid (court_why HE HS a.toNat b.toNat (by omega) (by omega) hpl.days HSZ.out);rw[Int.toNat_of_nonneg i1,Int.toNat_of_nonneg i3]at HW
  have HRE:Hid (R=whyD d (condP ps) (rankP ps) (timeP ts) a.toNat b.toNat):=by
   show _=_
   rw[<-HR.out];unfold whyA;rw[if_pos ⟨HOK.out.1,by rw[<-inside_two];exact HOK.out.2⟩]
  rw[<-HRE.out]at HW;have HBK:=Lib.hid HE.hBK;have HB3:=Lib.hid (HB2.out.trans (hb3.mono HB2.out.size));clear HE HS ho hpl i1 i2 i3 i4 HRE HR HOP hb3;go_wp2_with (go_at_call 35;refine HW.out.mono ?_;rintro e w4 ⟨rfl,HS4,HP4⟩);go_ret2;exact⟨rfl,HB3.out.trans (HP4.out.below HB3.out.size HBK.out)⟩
 ·rw[if_neg hok]at HOP
  have HRE:Hid (R=(0,1)):=by
   show _=_
   rw[<-HR.out];unfold whyA;rw[if_neg (fun h=>hok ⟨h.1,by rw[inside_two];exact h.2⟩)]
  clear hok HR;go_enter Tryz.func14,Tryz.ntmps14;go_wp2_with (go_at_call 31;refine HOP.out.mono ?_;rintro e w3 ⟨x,rfl,hb3,_⟩);go_ret2;exact⟨by rw[HRE.out];rfl,HB2.out.trans (hb3.mono HB2.out.size)⟩
theorem beats_any (d:List Fa)(ps:List Pv)(ts:List Int)(a b:Int)(v:Value)(w:World)(hn:ps.length<=1000)(hl:LawT w w.heap.size d ps ts v)(hsz:∀p∈ps,p.cond.size<=1000000)(hT:TabH w.heap.size w):
  Calls Tryz.prog 16 #[v,.int .i64 a,.int .i64 b] w fun e w'=>e=.returned (.tuple #[.bool (beatsA d ps ts a b).1,.int .i64 (beatsA d ps ts a b).2])/\ Below w.heap.size w w':=by
 have HL:=Lib.hid hl;obtain⟨u1,u2,u3,rfl,hd,hp,ht⟩:=hl;obtain⟨ad,cd,rfl,_⟩:=SlIn.shape hd;obtain⟨ap,cp,rfl,_⟩:=SlIn.shape hp;obtain⟨at_,ct,rfl,_⟩:=SlIn.shape ht;have HB1:Hid (Below w.heap.size w (w.alloc (.cells #[.slice ad d.length cd,.slice ap ps.length cp,.slice at_ ts.length ct] 28))):=(Below.refl _ _).alloc (Nat.le_refl _) _;have HW:=Lib.hid (why_any d ps ts a b _ (w.alloc (.cells #[.slice ad d.length cd,.slice ap ps.length cp,.slice at_ ts.length ct] 28)) hn ((HL.out.below HB1.out).mono HB1.out.size) hsz (fun w' h=>hT w' (HB1.out.trans (h.mono HB1.out.size))));have y0:=(Blk.new w 28 #[.slice ad d.length cd,.slice ap ps.length cp,.slice at_ ts.length ct]).cell 0;have y1:=(Blk.new w 28 #[.slice ad d.length cd,.slice ap ps.length cp,.slice at_ ts.length ct]).cell 1;have y2:=(Blk.new w 28 #[.slice ad d.length cd,.slice ap ps.length cp,.slice at_ ts.length ct]).cell 2;unfold beatsA;clear hd hp ht hsz hT;generalize whyA d ps ts a b=R at*
 obtain⟨n,er⟩:=R;simp only at HW⊢;go_enter Tryz.func16,Tryz.ntmps16;go_wp2_with (go_at_call 14;refine HW.out.mono ?_;rintro e w2 ⟨rfl,hb2⟩);go_ret2;exact⟨rfl,HB1.out.trans (hb2.mono HB1.out.size)⟩
theorem special_any (d:List Fa)(ps:List Pv)(ts:List Int)(a b:Int)(v:Value)(w:World)(hn:ps.length<=1000)(hl:LawT w w.heap.size d ps ts v)(hsz:∀p∈ps,p.cond.size<=1000000)(hT:TabH w.heap.size w):
  Calls Tryz.prog 12 #[v,.int .i64 a,.int .i64 b] w fun e w'=>e=.returned (.tuple #[.bool (specialA d ps ts a b).1,.int .i64 (specialA d ps ts a b).2])/\ Below w.heap.size w w':=by
 have HL:=Lib.hid hl;obtain⟨u1,u2,u3,rfl,hd,hp,ht⟩:=hl;obtain⟨ad,cd,rfl,_⟩:=SlIn.shape hd;obtain⟨ap,cp,rfl,_⟩:=SlIn.shape hp;obtain⟨at_,ct,rfl,_⟩:=SlIn.shape ht;have HB2:Hid (Below w.heap.size w ((w.alloc (.cells #[.slice ad d.length cd,.slice ap ps.length cp,.slice at_ ts.length ct] 28)).alloc (.cells #[.int .i64 a,.int .i64 b] 3))):=two_below _ _ _;have HOP:=Lib.hid (open_any d ps ts [a,b] _ _ ((w.alloc (.cells #[.slice ad d.length cd,.slice ap ps.length cp,.slice at_ ts.length ct] 28)).alloc (.cells #[.int .i64 a,.int .i64 b] 3)) w.heap.size hn HB2.out.size (HL.out.below HB2.out) (two_ints _ a b) (by simp) hsz (hT.on HB2.out));have x0:=((Blk.new w 28 #[.slice ad d.length cd,.slice ap ps.length cp,.slice at_ ts.length ct]).alloc (.cells #[.int .i64 a,.int .i64 b] 3)).cell 0;have y0:=(Blk.new w 28 #[.slice ad d.length cd,.slice ap ps.length cp,.slice at_ ts.length ct]).cell 0;have y1:=(Blk.new w 28 #[.slice ad d.length cd,.slice ap ps.length cp,.slice at_ ts.length ct]).cell 1;have y2:=(Blk.new w 28 #[.slice ad d.length cd,.slice ap ps.length cp,.slice at_ ts.length ct]).cell 2;obtain⟨R,hR⟩:∃R,specialA d ps ts a b=R:=⟨_,rfl⟩;rw[hR];have HR:Hid (specialA d ps ts a b=R):=hR;have HSZ:=Lib.hid hsz;rw[World.size_alloc]at HOP;clear hd hp ht hsz hT hR;by_cases hok:properL d ps ts.length=true/\ insideAll ps [a,b]=true
 ·rw[if_pos hok]at HOP
  have HOK:=Lib.hid hok;clear hok;go_enter Tryz.func12,Tryz.ntmps12;go_upto_region 4 with(go_at_call 31;refine HOP.out.mono ?_;rintro e w3 ⟨x,rfl,hb3,ho⟩;obtain⟨CB,KB,c0,c1,c2,rfl,HE,HS⟩:=(ho HOK.out).out.is);have hin:=HOK.out.2;rw[inside_two]at hin;unfold insideL at hin;simp only[Bool.and_eq_true,decide_eq_true_eq]at hin;obtain⟨⟨⟨i1,i2⟩,i3⟩,i4⟩:=hin;have hpl:=proper_ok HOK.out.1;have HW:=Lib.hid (court_special HE HS a.toNat b.toNat (by omega) (by omega) HSZ.out);rw[Int.toNat_of_nonneg i1,Int.toNat_of_nonneg i3]at HW
  have HRE:Hid (R=((specD d (condP ps) a.toNat b.toNat).1,(specD d (condP ps) a.toNat b.toNat).2.2)):=by
   show _=_
   rw[<-HR.out];unfold specialA;rw[if_pos ⟨HOK.out.1,by rw[<-inside_two];exact HOK.out.2⟩]
  have HBK:=Lib.hid HE.hBK;have HB3:=Lib.hid (HB2.out.trans (hb3.mono HB2.out.size));clear HE HS ho hpl i1 i2 i3 i4 HR HOP hb3;go_wp2_with (go_at_call 32;refine HW.out.mono ?_;rintro e w4 ⟨rfl,HS4,HP4⟩);go_ret2;exact⟨by rw[HRE.out];rfl,HB3.out.trans (HP4.out.below HB3.out.size HBK.out)⟩
 ·rw[if_neg hok]at HOP
  have HRE:Hid (R=(false,1)):=by
   show _=_
   rw[<-HR.out];unfold specialA;rw[if_neg (fun h=>hok ⟨h.1,by rw[inside_two];exact h.2⟩)]
  clear hok HR;go_enter Tryz.func12,Tryz.ntmps12;go_wp2_with (go_at_call 31;refine HOP.out.mono ?_;rintro e w3 ⟨x,rfl,hb3,_⟩);go_ret2;exact⟨by rw[HRE.out];rfl,HB2.out.trans (hb3.mono HB2.out.size)⟩
end
section
open Go.RowKit
theorem few15_any (d:List Fa)(ps:List Pv)(ts:List Int)(v:Value)(w:World)(hl:LawT w w.heap.size d ps ts v):
  Calls Tryz.prog 10 #[v] w fun e w'=>e=.returned (.bool (fewL d ps 8))/\ Below w.heap.size w w':=by
 have HL:=Lib.hid hl.law;obtain⟨u1,u2,u3,rfl,hd,hp,ht⟩:=hl;obtain⟨ad,cd,rfl,_⟩:=SlIn.shape hd;obtain⟨ap,cp,rfl,_⟩:=SlIn.shape hp;obtain⟨at_,ct,rfl,_⟩:=SlIn.shape ht;have HB1:Hid (Below w.heap.size w (w.alloc (.cells #[.slice ad d.length cd,.slice ap ps.length cp,.slice at_ ts.length ct] 28))):=(Below.refl _ _).alloc (Nat.le_refl _) _;have HF:=Lib.hid (few_any d ps 8 _ (w.alloc (.cells #[.slice ad d.length cd,.slice ap ps.length cp,.slice at_ ts.length ct] 28)) w.heap.size (by decide) (by decide) HB1.out.size (HL.out.below HB1.out));have y0:=(Blk.new w 28 #[.slice ad d.length cd,.slice ap ps.length cp,.slice at_ ts.length ct]).cell 0;have y1:=(Blk.new w 28 #[.slice ad d.length cd,.slice ap ps.length cp,.slice at_ ts.length ct]).cell 1;have y2:=(Blk.new w 28 #[.slice ad d.length cd,.slice ap ps.length cp,.slice at_ ts.length ct]).cell 2;clear hd hp ht;generalize fewL d ps 8=R at*
 go_enter Tryz.func10,Tryz.ntmps10;go_wp2_with (go_at_call 29;refine HF.out.mono ?_;rintro e w2 ⟨rfl,hb2⟩);go_ret;exact⟨rfl,HB1.out.trans (hb2.mono HB1.out.size)⟩
theorem beats15_any (d:List Fa)(ps:List Pv)(ts:List Int)(a b:Int)(v:Value)(w:World)(hn:ps.length<=1000)(hl:LawT w w.heap.size d ps ts v)(hsz:∀p∈ps,p.cond.size<=1000000)(hT:TabH w.heap.size w):
  Calls Tryz.prog 21 #[v,.int .i64 a,.int .i64 b] w fun e w'=>e=.returned (.bool (beatF d ps ts a b))/\ Below w.heap.size w w':=by
 have HL:=Lib.hid hl;obtain⟨u1,u2,u3,rfl,hd,hp,ht⟩:=hl;obtain⟨ad,cd,rfl,_⟩:=SlIn.shape hd;obtain⟨ap,cp,rfl,_⟩:=SlIn.shape hp;obtain⟨at_,ct,rfl,_⟩:=SlIn.shape ht;have HB1:Hid (Below w.heap.size w (w.alloc (.cells #[.slice ad d.length cd,.slice ap ps.length cp,.slice at_ ts.length ct] 28))):=(Below.refl _ _).alloc (Nat.le_refl _) _;have HW:=Lib.hid (beats_any d ps ts a b _ (w.alloc (.cells #[.slice ad d.length cd,.slice ap ps.length cp,.slice at_ ts.length ct] 28)) hn ((HL.out.below HB1.out).mono HB1.out.size) hsz (fun w' h=>hT w' (HB1.out.trans (h.mono HB1.out.size))));have y0:=(Blk.new w 28 #[.slice ad d.length cd,.slice ap ps.length cp,.slice at_ ts.length ct]).cell 0;have y1:=(Blk.new w 28 #[.slice ad d.length cd,.slice ap ps.length cp,.slice at_ ts.length ct]).cell 1;have y2:=(Blk.new w 28 #[.slice ad d.length cd,.slice ap ps.length cp,.slice at_ ts.length ct]).cell 2;unfold beatF;clear hd hp ht hsz hT;generalize beatsA d ps ts a b=R at*
 obtain⟨n,er⟩:=R;simp only at HW⊢;go_enter Tryz.func21,Tryz.ntmps21;cases n
 all_goals
  go_wp2_with (go_at_call 16;refine HW.out.mono ?_;rintro e w2 ⟨rfl,hb2⟩);go_ret;exact⟨by first | rfl | simp,HB1.out.trans (hb2.mono HB1.out.size)⟩
theorem inside_any (d:List Fa)(ps:List Pv)(ts:List Int)(a b:Int)(v:Value)(w:World)(hl:LawT w w.heap.size d ps ts v):
  Calls Tryz.prog 22 #[v,.int .i64 a,.int .i64 b] w fun e w'=>e=.returned (.bool (insideL ps a b))/\ Below w.heap.size w w':=by
 obtain⟨u1,u2,u3,rfl,hd,hp,ht⟩:=hl;obtain⟨ad,cd,rfl,_⟩:=SlIn.shape hd;obtain⟨ap,cp,rfl,_⟩:=SlIn.shape hp;obtain⟨at_,ct,rfl,_⟩:=SlIn.shape ht;have HB1:Hid (Below w.heap.size w (w.alloc (.cells #[.slice ad d.length cd,.slice ap ps.length cp,.slice at_ ts.length ct] 28))):=(Below.refl _ _).alloc (Nat.le_refl _) _;have y1:=(Blk.new w 28 #[.slice ad d.length cd,.slice ap ps.length cp,.slice at_ ts.length ct]).cell 1;obtain⟨R,hR⟩:∃R,insideL ps a b=R:=⟨_,rfl⟩;rw[hR];have HR:=Lib.hid hR;clear hd hp ht hR;unfold insideL at HR;cases g1:decide (0<=a)<;>cases g2:decide (a<(ps.length:Int))<;>cases g3:decide (0<=b)<;>cases g4:decide (b<(ps.length:Int))
 all_goals
  rw[g1,g2,g3,g4]at HR;go_enter Tryz.func22,Tryz.ntmps22;go_wp2;go_ret;exact⟨ret_bool HR.out,HB1.out⟩
end
end Go.Proofs.YtmafmhlfjficmaaGreatDoor
