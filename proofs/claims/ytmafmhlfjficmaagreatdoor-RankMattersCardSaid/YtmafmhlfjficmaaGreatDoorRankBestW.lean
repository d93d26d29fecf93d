/- The walk of law15.RankBest. No conditions. -/
import Derived.Test.YtmafmhlfjficmaaGreatDoorRkLA
namespace Go.Proofs.YtmafmhlfjficmaaGreatDoor
open Go.RowKit
section
variable {w W W' : World} {b : Nat} {d : List Fa} {ps : List Pv} {ts : List Int} {v : Value} {cs : Array Value}
theorem lwl_best {ids:List ByteArray}{u:Value}(h:Hid (LwL w W b d ps ts v cs))(hs:Hid (SizL ps))(hu:Hid (StrsIn w w.heap.size ids u)){out:List ByteArray}{er:Int}(hx:bestA d ps ts ids=(out,er)):
  Calls Tryz.prog 18 #[v,u] W fun e W'=>∃(a:Option Addr) (c:Nat),e=.returned (.tuple #[.slice a out.length c,.int .i64 er])/\ Hid (LwL w W' b d ps ts v cs)/\ Hid (StrsIn W' W'.heap.size out (.slice a out.length c)):=by
 have:=hs.out.len;refine(best_any d ps ts ids v u W (by omega) h.out.law (SlIn.mono (OneR.mono _) h.out.low.size (SlIn.below (OneR.kept _) h.out.low hu.out)) hs.out.size h.out.tab).mono ?_;rintro e w' ⟨x,rfl,hb,hs⟩;rw[hx]at hs⊢;obtain⟨a,c,rfl,_⟩:=SlIn.shape hs;exact⟨a,c,rfl,h.out.step hb,hs⟩
theorem lwl_find (h:Hid (LwL w W b d ps ts v cs))(hs:Hid (SizL ps))(hb:Hid (Below W.heap.size W W'))(s:ByteArray){X:Int}(hX:findP s ps 0=X):Calls Tryz.prog 23 #[v,.string s] W' fun e w'=>e=.returned (.int .i64 X)/\ Hid (Below W.heap.size W w'):=by
 have:=hs.out.len;have h2:=h.out.step hb.out;refine(find_any d ps ts s v W' (by omega) h2.law).mono ?_;rintro e w' ⟨rfl,hb2⟩;exact⟨by rw[hX],hb.out.trans (hb2.mono hb.out.size)⟩
theorem lwl_beatB (h:Hid (LwL w W b d ps ts v cs))(hs:Hid (SizL ps))(hb:Hid (Below W.heap.size W W'))(i j:Int){x:Bool}(hx:beatF d ps ts i j=x):Calls Tryz.prog 21 #[v,.int .i64 i,.int .i64 j] W' fun e w'=>e=.returned (.bool x)/\ Hid (Below W.heap.size W w'):=by
 have:=hs.out.len;have h2:=h.out.step hb.out;refine(beats15_any d ps ts i j v W' (by omega) h2.law hs.out.size h2.tab).mono ?_;rintro e w' ⟨rfl,hb2⟩;exact⟨by rw[hx],hb.out.trans (hb2.mono hb.out.size)⟩
theorem in_yes {w:World}{l:List ByteArray}{s:ByteArray}{v:Value}{R:Bool}(h:Hid (StrsIn w w.heap.size l v))(hR:inB l s=R):Calls Tryz.prog 24 #[v,.string s] w fun e w'=>e=.returned (.bool R)/\ w=w':=by
 refine(in_any l s v w _ h.out).mono ?_;rintro e w' ⟨rfl,h⟩;exact⟨by rw[hR],h⟩
theorem cell_lt {w:World}{b o:Nat}{x:Value}(h:w.cell? ⟨b,o,none⟩=some x):b<w.heap.size:=by
 rcases Nat.lt_or_ge b w.heap.size with hb | hb
 ·exact hb
 ·exfalso
  have:w.heap[b]? =none:=Array.getElem?_eq_none hb;simp[World.cell?,this]at h
theorem lwl_strs {ids:List ByteArray}{u:Value}(h:Hid (LwL w W b d ps ts v cs))(hu:Hid (StrsIn w w.heap.size ids u)):Hid (StrsIn W W.heap.size ids u):=SlIn.mono (OneR.mono _) h.out.low.size (SlIn.below (OneR.kept _) h.out.low hu.out)
end
def lastI (L:List Nat)(k:Nat):Int:=if k=0 then-1 else((L.getD (k-1) 0:Nat):Int)
theorem lastI_lt {L:List Nat}(h:L.Pairwise (· < ·)){k:Nat}(hk:k<L.length):lastI L k<(L[k]:Nat):=by
 unfold lastI
 split
 ·omega
 ·next h0=>
  have:=List.pairwise_iff_getElem.1 h (k-1) k (by omega) hk (by omega);rw[List.getD_eq_getElem?_getD,List.getElem?_eq_getElem (by omega)]
  simp
  omega
theorem lastI_next {L:List Nat}{k:Nat}(hk:k<L.length):lastI L (k+1)=(L[k]:Nat):=by
 unfold lastI;rw[if_neg (by omega),List.getD_eq_getElem?_getD,Nat.add_sub_cancel,List.getElem?_eq_getElem hk]
 rfl
def overI (d:List Fa)(ps:List Pv)(ts:List Int)(L:List Nat)(s:ByteArray)(i:Nat):Bool:=inB (L.map (idP ps)) s || (L.take i).any fun x=>beatF d ps ts (x:Int) (findP s ps 0)
theorem overI_next {d:List Fa}{ps:List Pv}{ts:List Int}{L:List Nat}{s:ByteArray}{i:Nat}(hi:i<L.length):overI d ps ts L s (i+1)=(overI d ps ts L s i || beatF d ps ts (L[i]:Nat) (findP s ps 0)):=by
 unfold overI;rw[List.take_succ_eq_append_getElem hi,List.any_append,List.any_cons,List.any_nil,Bool.or_false,Bool.or_assoc]
theorem overI_end {d:List Fa}{ps:List Pv}{ts:List Int}{ids:List ByteArray}{L:List Nat}(h:BestL d ps ts ids L){s:ByteArray}(hs:s∈ids):overI d ps ts L s L.length=true:=by
 unfold overI;rw[List.take_length,Bool.or_eq_true];rcases h.over s hs with h | ⟨i,hi,h⟩
 ·exact .inl h
 ·exact .inr (List.any_eq_true.2 ⟨i,hi,h⟩)
set_option maxRecDepth 100000 in
set_option maxHeartbeats 8000000 in
theorem rankBest_any {d:List Fa}{ps:List Pv}{ts:List Int}{v:Value}(w:World)(hl:LawT w w.heap.size d ps ts v){ids:List ByteArray}{u:Value}(hu:StrsIn w w.heap.size ids u)(hT:TabH w.heap.size w):
  Calls Tryz.prog 6 #[v,u] w fun e w'=>e=.returned (.bool true)/\ Below w.heap.size w w':=by
 have hl0:=hl;obtain⟨u1,u2,u3,rfl,hd,hp,ht⟩:=hl;obtain⟨ad,cd,rfl,_⟩:=SlIn.shape hd;obtain⟨ap,cp,rfl,p1,p2,_⟩:=SlIn.shape hp;obtain⟨at_,ct,rfl,_⟩:=SlIn.shape ht;have HU:=Lib.hid hu;obtain⟨ai,ci,rfl,i1,i2,_⟩:=SlIn.shape hu;unfold maxLen at i2;have HL:=lwl_start (cs:=#[.slice ad d.length cd,.slice ap ps.length cp,.slice at_ ts.length ct]) hl0 hT;have y0:=HL.out.box.cell 0;have y1:=HL.out.box.cell 1;have y2:=HL.out.box.cell 2;clear hl0 hd hp ht hT hu;cases hf:fewL d ps 8 with
 | false=>
  go_enter Tryz.func6,Tryz.ntmps6;go_upto_region 2 with(go_at_call 9;refine(lwl_head HL).mono ?_;rintro e w2 ⟨rfl,HL2⟩;(clear y0 y1 y2;have HL:=HL2;clear HL2;(have y0:=HL.out.box.cell 0;have y1:=HL.out.box.cell 1;have y2:=HL.out.box.cell 2)));go_wp2_with (go_at_call 10;refine(lwl_few HL hf).mono ?_;rintro e w2 ⟨rfl,HL2⟩);go_ret;exact⟨rfl,HL2.out.low⟩
 | true=>
  have HS:=Lib.hid (siz_of hf);have HF:=Lib.hid hf;clear hf;by_cases hcl:(20:Int)<(ids.length:Int)
  ·have k0:decide ((20:Int)<(ids.length:Int))=true:=decide_eq_true hcl
   clear hcl;go_enter Tryz.func6,Tryz.ntmps6;go_upto_region 2 with(go_at_call 9;refine(lwl_head HL).mono ?_;rintro e w2 ⟨rfl,HL2⟩;(clear y0 y1 y2;have HL:=HL2;clear HL2;(have y0:=HL.out.box.cell 0;have y1:=HL.out.box.cell 1;have y2:=HL.out.box.cell 2)));go_wp2_with (go_at_call 10;refine(lwl_few HL HF.out).mono ?_;rintro e w2 ⟨rfl,HL2⟩;(clear y0 y1 y2;have HL:=HL2;clear HL2;(have y0:=HL.out.box.cell 0;have y1:=HL.out.box.cell 1;have y2:=HL.out.box.cell 2)));go_ret;exact⟨rfl,HL.out.low⟩
  ·have k0:decide ((20:Int)<(ids.length:Int))=false:=decide_eq_false hcl
   clear hcl;obtain⟨⟨best,er⟩,hb⟩:∃X,bestA d ps ts ids=X:=⟨_,rfl⟩;have HB:=Lib.hid hb;clear hb;by_cases he:er=0
   ·subst he
    obtain⟨L,hL⟩:=best_law (d:=d) (ps:=ps) (ts:=ts) (ids:=ids) (by rw[HB.out]);have hbe:best=L.map (idP ps):=by have:=hL.eq;rw[HB.out]at this;exact this
    subst hbe;have HBL:=Lib.hid hL
    have hLn:L.length<=8:=by
     have h1:=List.Nodup.length_le_of_subset (hL.order.imp (fun h=>Nat.ne_of_lt h)) (l₂:=List.range ps.length) (fun y hy=>List.mem_range.2 (hL.inside y hy).1);rw[List.length_range]at h1;have:=HS.out.len;omega
    clear hL;go_enter Tryz.func6,Tryz.ntmps6;go_upto_region 2 with(go_at_call 9;refine(lwl_head HL).mono ?_;rintro e w2 ⟨rfl,HL2⟩;(clear y0 y1 y2;have HL:=HL2;clear HL2;(have y0:=HL.out.box.cell 0;have y1:=HL.out.box.cell 1;have y2:=HL.out.box.cell 2)));go_upto_region 4 with(go_at_call 10;refine(lwl_few HL HF.out).mono ?_;rintro e w2 ⟨rfl,HL2⟩;(clear y0 y1 y2;have HL:=HL2;clear HL2;(have y0:=HL.out.box.cell 0;have y1:=HL.out.box.cell 1;have y2:=HL.out.box.cell 2)));go_upto_region 7 with(go_at_call 18;refine(lwl_best HL HS HU HB.out).mono ?_;rintro e w5 ⟨ab,cb,rfl,HL2,HBS⟩;(clear y0 y1 y2;have HL:=HL2;clear HL2;(have y0:=HL.out.box.cell 0;have y1:=HL.out.box.cell 1;have y2:=HL.out.box.cell 2)));rw[List.length_map]at HBS;have HL5:=HL;clear HL k0 HB;go_wp2
    go_loopw [8,9] (fun lv iv wr=>∃k:Nat,k<=L.length/\ iv=.int .i64 k/\ lv=.int .i64 (lastI L k)/\ Hid (Below w5.heap.size w5 wr)) (fun _ iv _=>L.length-(intOf iv).toNat)
    case atStart=>exact⟨0,Nat.zero_le _,rfl,rfl,Below.refl _ _⟩
    case round=>
     rename World=>wA
     obtain⟨k,hk,rfl,rfl,HBA⟩:=hrel;have HL:=Lib.hid (HL5.out.step HBA.out);have HBA2:=Lib.hid (SlIn.mono (OneR.mono _) HBA.out.size (SlIn.below (OneR.kept _) HBA.out HBS.out));have HUA:=lwl_strs HL HU;clear y0 y1 y2
     (have y0:=HL.out.box.cell 0;have y1:=HL.out.box.cell 1;have y2:=HL.out.box.cell 2)
     by_cases hlt:k<L.length
     ·have hm:L[k]∈L:=List.getElem_mem hlt
      have hin:=HBL.out.inside _ hm;obtain⟨bb,bo,hab,_,b1⟩:=SlIn.one HBA2.out k (by rw[List.length_map];exact hlt);rw[List.getElem_map]at b1;subst hab
      have HF1:Hid (findP (idP ps L[k]) ps 0=(L[k]:Nat)):=by
       show _=_
       rw[idP_at hin.1];exact find_at HBL.out.ne hin.1
      have HLT:=Lib.hid (lastI_lt HBL.out.order hlt);have HNX:=Lib.hid (lastI_next hlt);have HIN:=Lib.hid hin.2;have HNO:=Lib.hid (fun s hs=>HBL.out.none _ hm s hs);generalize hn:L[k]=n at*
      generalize idP ps n=s at*
      have hnl:(n:Int)<=1000:=by have:=HS.out.len;omega
      clear hm hin hn;have k1:decide ((n:Int)<=lastI L k)=false:=decide_eq_false (by have:=HLT.out;omega);generalize lastI L k=la at*
      have hbbA:=cell_lt b1
      have HCL:Hid (∀w',Hid (Below wA.heap.size wA w')->((w'.cell? ⟨w.heap.size,0,none⟩=some (.slice ad d.length cd)/\ w'.cell? ⟨w.heap.size,1,none⟩=some (.slice ap ps.length cp)/\ w'.cell? ⟨w.heap.size,2,none⟩=some (.slice at_ ts.length ct))/\ w'.cell? ⟨bb,bo+k,none⟩=some (.string s))/\ Hid (Below wA.heap.size wA w')):=fun w' hb=>
       ⟨⟨⟨((HL.out.step hb.out).box).cell 0,((HL.out.step hb.out).box).cell 1,((HL.out.step hb.out).box).cell 2⟩,(hb.out.cell (p:=⟨bb,bo+k,none⟩) hbbA).trans b1⟩,hb⟩
      have HBB:Hid (Below wA.heap.size wA wA.drew):=(Below.refl _ _).drew;go_upto_region 11 with(fail)
      go_region_held3 (fun w'=>((w'.cell? ⟨w.heap.size,0,none⟩=some (.slice ad d.length cd)/\ w'.cell? ⟨w.heap.size,1,none⟩=some (.slice ap ps.length cp)/\ w'.cell? ⟨w.heap.size,2,none⟩=some (.slice at_ ts.length ct))/\ w'.cell? ⟨bb,bo+k,none⟩=some (.string s))/\ Hid (Below wA.heap.size wA w'))
       (exact HCL.out _ (by assumption))
       (first
        | (go_at_call 23;refine(lwl_find HL HS (by assumption) s HF1.out).mono ?_;rintro e wB ⟨rfl,HB1⟩))
      go_split_ands;have HBW:=Lib.hid (HBA.out.trans (HB1.out.mono HBA.out.size));clear HBB HCL y0 y1 y2 b1 HBA2 HUA hbbA;have HLB:=Lib.hid (HL5.out.step HBW.out);have HUB:=lwl_strs HLB HU;go_wp2_with (go_at_call 24;refine(in_yes HUB HIN.out).mono ?_;rintro e wC ⟨rfl,rfl⟩);clear HLB HUB HB1 HL
      go_loopw [11] (fun jv wr=>∃j:Nat,j<=ids.length/\ jv=.int .i64 j/\ Hid (Below w5.heap.size w5 wr)) (fun jv _=>ids.length-(intOf jv).toNat)
      case atStart=>exact⟨0,Nat.zero_le _,rfl,HBW⟩
      case round=>
       rename World=>wD
       obtain⟨j,hj,rfl,HBD⟩:=hrel;have HL:=Lib.hid (HL5.out.step HBD.out);have HUD:=lwl_strs HL HU
       (have y0:=HL.out.box.cell 0;have y1:=HL.out.box.cell 1;have y2:=HL.out.box.cell 2)
       by_cases hjl:j<ids.length
       ·have HMEM:Hid (ids[j]∈ids):=List.getElem_mem hjl
        obtain⟨ib,io,rfl,_,q1⟩:=SlIn.one HUD.out j hjl;generalize ids[j]=z at*
        have HNB:=Lib.hid (HNO.out z HMEM.out);have hib:=cell_lt q1;obtain⟨X,hX⟩:∃X,findP z ps 0=X:=⟨_,rfl⟩;rw[hX]at HNB;have HX:=Lib.hid hX
        have HCL:Hid (∀w',Hid (Below wD.heap.size wD w')->((w'.cell? ⟨w.heap.size,0,none⟩=some (.slice ad d.length cd)/\ w'.cell? ⟨w.heap.size,1,none⟩=some (.slice ap ps.length cp)/\ w'.cell? ⟨w.heap.size,2,none⟩=some (.slice at_ ts.length ct))/\ w'.cell? ⟨ib,io+j,none⟩=some (.string z))/\ Hid (Below wD.heap.size wD w')):=fun w' hb=>
         ⟨⟨⟨((HL.out.step hb.out).box).cell 0,((HL.out.step hb.out).box).cell 1,((HL.out.step hb.out).box).cell 2⟩,(hb.out.cell (p:=⟨ib,io+j,none⟩) hib).trans q1⟩,hb⟩
        have HBB:Hid (Below wD.heap.size wD wD.drew):=(Below.refl _ _).drew;clear hX;go_upto_region 18 with(fail)
        go_region_held3 (fun w'=>((w'.cell? ⟨w.heap.size,0,none⟩=some (.slice ad d.length cd)/\ w'.cell? ⟨w.heap.size,1,none⟩=some (.slice ap ps.length cp)/\ w'.cell? ⟨w.heap.size,2,none⟩=some (.slice at_ ts.length ct))/\ w'.cell? ⟨ib,io+j,none⟩=some (.string z))/\ Hid (Below wD.heap.size wD w'))
         (exact HCL.out _ (by assumption))
         (first
          | (go_at_call 23;refine(lwl_find HL HS (by assumption) z HX.out).mono ?_;rintro e wE ⟨rfl,HB2⟩)
          | (go_at_call 21;refine(lwl_beatB HL HS (by assumption) _ _ HNB.out).mono ?_;rintro e wF ⟨rfl,HB3⟩))
        go_split_ands;have HBG:=Lib.hid (HBD.out.trans (HB3.out.mono HBD.out.size));go_wp2;go_roundw
        case rel=>exact⟨j+1,by omega,by go_num,HBG⟩
        case measure=>simp[intOf];omega
       ·go_wp2
        go_roundw
        case rel=>exact⟨k+1,by omega,by go_num,by rw[HNX.out],HBD⟩
        case measure=>simp[intOf];omega
     ·clear HL HBA2 HUA y0 y1 y2
      go_wp2;clear hlt hk
      go_loopw [12] (fun kv wr=>∃k:Nat,k<=ids.length/\ kv=.int .i64 k/\ Hid (Below w5.heap.size w5 wr)) (fun kv _=>ids.length-(intOf kv).toNat)
      case atStart=>exact⟨0,Nat.zero_le _,rfl,HBA⟩
      case round=>
       rename World=>wD
       obtain⟨k,hk,rfl,HBD⟩:=hrel;have HL:=Lib.hid (HL5.out.step HBD.out);have HUD:=lwl_strs HL HU;have HBD2:=Lib.hid (SlIn.mono (OneR.mono _) HBD.out.size (SlIn.below (OneR.kept _) HBD.out HBS.out));by_cases hlt:k<ids.length
       ·have HMEM:Hid (ids[k]∈ids):=List.getElem_mem hlt
        obtain⟨ib,io,rfl,_,q1⟩:=SlIn.one HUD.out k hlt;have HUO:=Lib.hid q1;generalize ids[k]=z at*
        have hib:=cell_lt q1;have HOE:=Lib.hid (overI_end HBL.out HMEM.out);obtain⟨R0,hR0⟩:∃R0,inB (L.map (idP ps)) z=R0:=⟨_,rfl⟩;have HO0:Hid (overI d ps ts L z 0=R0):=by show _=_;unfold overI;rw[hR0];simp
        have HR0:=Lib.hid hR0;obtain⟨fz,hfz⟩:∃fz,findP z ps 0=fz:=⟨_,rfl⟩;have HFZ:=Lib.hid hfz;clear hR0 hfz HL HUD;go_wp2_with (go_at_call 24;refine(in_yes HBD2 HR0.out).mono ?_;rintro e wE ⟨rfl,rfl⟩);clear HBD2 q1
        go_loopw [13,14] (fun ov iv wr=>∃i:Nat,i<=L.length/\ iv=.int .i64 i/\ ov=.bool (overI d ps ts L z i)/\ Hid (Below wD.heap.size wD wr)) (fun _ iv _=>L.length-(intOf iv).toNat)
        case atStart=>exact⟨0,Nat.zero_le _,rfl,by rw[HO0.out],Below.refl _ _⟩
        case round=>
         rename World=>wF
         obtain⟨i,hi,rfl,rfl,HBF⟩:=hrel;have HBF5:=Lib.hid (HBD.out.trans (HBF.out.mono HBD.out.size));have HL:=Lib.hid (HL5.out.step HBF5.out);have q1:=(HBF.out.cell (p:=⟨ib,io+k,none⟩) hib).trans HUO.out;have HBF2:=Lib.hid (SlIn.mono (OneR.mono _) HBF5.out.size (SlIn.below (OneR.kept _) HBF5.out HBS.out))
         (have y0:=HL.out.box.cell 0;have y1:=HL.out.box.cell 1;have y2:=HL.out.box.cell 2)
         by_cases hil:i<L.length
         ·have hm:L[i]∈L:=List.getElem_mem hil
          have hin:=HBL.out.inside _ hm;obtain⟨bb,bo,rfl,_,b1⟩:=SlIn.one HBF2.out i (by rw[List.length_map];exact hil);rw[List.getElem_map]at b1
          have HF1:Hid (findP (idP ps L[i]) ps 0=(L[i]:Nat)):=by
           show _=_
           rw[idP_at hin.1];exact find_at HBL.out.ne hin.1
          have hON:=overI_next (d:=d) (ps:=ps) (ts:=ts) (s:=z) hil;rw[HFZ.out]at hON;generalize hn:L[i]=n at*
          generalize idP ps n=s at*
          obtain⟨rb,hrb⟩:∃rb,beatF d ps ts (n:Int) fz=rb:=⟨_,rfl⟩;rw[hrb]at hON;have HRB:=Lib.hid hrb;obtain⟨ov,hov⟩:∃ov,overI d ps ts L z i=ov:=⟨_,rfl⟩;rw[hov]at hON⊢;have HON:=Lib.hid hON;have hbb:=cell_lt b1;have hibF:=cell_lt q1;clear hm hin hn hrb hov hON;cases ov with
          | true=>
           go_wp2
           go_quiet(fail)
           go_wp2;go_roundw
           case rel=>exact⟨i+1,by omega,by go_num,by rw[HON.out];rfl,HBF.out.trans (World.drewN_below _ _ _)⟩
           case measure=>simp[intOf];omega
          | false=>
           have HCL:Hid (∀w',Hid (Below wF.heap.size wF w')->((w'.cell? ⟨w.heap.size,0,none⟩=some (.slice ad d.length cd)/\ w'.cell? ⟨w.heap.size,1,none⟩=some (.slice ap ps.length cp)/\ w'.cell? ⟨w.heap.size,2,none⟩=some (.slice at_ ts.length ct))/\ w'.cell? ⟨ib,io+k,none⟩=some (.string z)/\ w'.cell? ⟨bb,bo+i,none⟩=some (.string s))/\ Hid (Below wF.heap.size wF w')):=fun w' hb=>
            ⟨⟨⟨((HL.out.step hb.out).box).cell 0,((HL.out.step hb.out).box).cell 1,((HL.out.step hb.out).box).cell 2⟩,(hb.out.cell (p:=⟨ib,io+k,none⟩) hibF).trans q1,(hb.out.cell (p:=⟨bb,bo+i,none⟩) hbb).trans b1⟩,hb⟩
           have HBB:Hid (Below wF.heap.size wF wF.drew):=(Below.refl _ _).drew;go_upto_region 27 with(fail)
           go_region_held3 (fun w'=>((w'.cell? ⟨w.heap.size,0,none⟩=some (.slice ad d.length cd)/\ w'.cell? ⟨w.heap.size,1,none⟩=some (.slice ap ps.length cp)/\ w'.cell? ⟨w.heap.size,2,none⟩=some (.slice at_ ts.length ct))/\ w'.cell? ⟨ib,io+k,none⟩=some (.string z)/\ w'.cell? ⟨bb,bo+i,none⟩=some (.string s))/\ Hid (Below wF.heap.size wF w'))
            (exact HCL.out _ (by assumption))
            (first
             | (go_at_call_of 23 s;refine(lwl_find HL HS (by assumption) s HF1.out).mono ?_;rintro e wG ⟨rfl,HB1⟩)
             | (go_at_call_of 23 z;refine(lwl_find HL HS (by assumption) z HFZ.out).mono ?_;rintro e wH ⟨rfl,HB2⟩)
             | (go_at_call 21;refine(lwl_beatB HL HS (by assumption) _ _ HRB.out).mono ?_;rintro e wI ⟨rfl,HB3⟩))
           go_split_ands;have HBG:=Lib.hid (HBF.out.trans (HB3.out.mono HBF.out.size));go_wp2;go_roundw
           case rel=>exact⟨i+1,by omega,by go_num,by rw[HON.out];rfl,HBG⟩
           case measure=>simp[intOf];omega
         ·have hin':i=L.length:=by omega
          subst hin';rw[HOE.out];go_wp2;go_roundw
          case rel=>exact⟨k+1,by omega,by go_num,HBF5⟩
          case measure=>simp[intOf];omega
       ·have HSO:=Lib.hid HBL.out.some
        have HLW:=Lib.hid (HL.out.low);by_cases hz:L=[]
        ·have hz2:=HSO.out.1 hz
         subst hz hz2;clear HSO HBL;go_wp2;go_ret;exact⟨by first | rfl | simp,HLW.out⟩
        ·have hz2:ids≠[]:=fun e=>hz (HSO.out.2 e)
         have l1:0<L.length:=List.length_pos_iff.2 hz;have l2:0<ids.length:=List.length_pos_iff.2 hz2;have g1:decide ((0:Int)<(L.length:Int))=true:=decide_eq_true (by omega);have g2:decide ((0:Int)<(ids.length:Int))=true:=decide_eq_true (by omega);have g3:decide (0<L.length)=true:=decide_eq_true l1;have g4:decide (0<ids.length)=true:=decide_eq_true l2;clear HSO hz hz2;go_wp2;go_ret;exact⟨by first | rfl | simp,HLW.out⟩
   ·have hz:best=[]:=by have:=bestA_err (d:=d) (ps:=ps) (ts:=ts) (ids:=ids) (by rw[HB.out];exact he);rw[HB.out]at this;exact this
    subst hz;have gE:(er !=0)=true:=by simpa using he
    clear he;go_enter Tryz.func6,Tryz.ntmps6;go_upto_region 2 with(go_at_call 9;refine(lwl_head HL).mono ?_;rintro e w2 ⟨rfl,HL2⟩;(clear y0 y1 y2;have HL:=HL2;clear HL2;(have y0:=HL.out.box.cell 0;have y1:=HL.out.box.cell 1;have y2:=HL.out.box.cell 2)));go_upto_region 4 with(go_at_call 10;refine(lwl_few HL HF.out).mono ?_;rintro e w2 ⟨rfl,HL2⟩;(clear y0 y1 y2;have HL:=HL2;clear HL2;(have y0:=HL.out.box.cell 0;have y1:=HL.out.box.cell 1;have y2:=HL.out.box.cell 2)));go_wp2_with (go_at_call 18;refine(lwl_best HL HS HU HB.out).mono ?_;rintro e w5 ⟨ab,cb,rfl,HL2,HBS⟩;(clear y0 y1 y2;have HL:=HL2;clear HL2;(have y0:=HL.out.box.cell 0;have y1:=HL.out.box.cell 1;have y2:=HL.out.box.cell 2)));go_ret;exact⟨by first | rfl | simp,HL.out.low⟩
end Go.Proofs.YtmafmhlfjficmaaGreatDoor
