/- The walk of regime.Governs. Bounds on the number of rules and the conditions' sizes. -/
import Derived.Test.YtihniipjfdenbaaGreatDoorRgOA
import Derived.Test.YtihniipjfdenbaaGreatDoorRgGA
namespace Go.Proofs.YtihniipjfdenbaaGreatDoor
open Go.RowKit
structure HdV (W0 W : World) (b : Nat) (xs : List ChA) (a : Option Addr) (c : Nat) : Prop where
 box:Blk W b 22 #[.slice a xs.length c]
 own:W.ownsRow W0.heap.size 49 9 (.slice a xs.length c) xs.length (xs.flatMap ChA.cells)
 ok:∀x∈xs,x.Ok W W0.heap.size
theorem hold_set {WA W w8:World}{b:Nat}{u:Value}{xs:List ChA}{a:Option Addr}{c:Nat}(HA:Hid (Blk w8 b 22 #[u]))(HR:Hid (w8.ownsRow W.heap.size 49 9 (.slice a xs.length c) xs.length (xs.flatMap ChA.cells)))(HK:Hid (∀x∈xs,x.Ok w8 WA.heap.size))(HL:Hid (WA.heap.size<=b))(hbW:b<W.heap.size:=by simp)(hWW:WA.heap.size<=W.heap.size:=by simp):
  Hid (HdV WA (w8.setCell ⟨b,0,none⟩ (.slice a xs.length c)) b xs a c):=
 ⟨blk_one HA.out _,own_base (own_setX HR.out hbW 0 _) hWW,fun x hx=>(HK.out x hx).up ((Below.refl _ _).setCell (p:=⟨b,0,none⟩) HL.out _)⟩
theorem hold_new {WA W w8:World}{xs:List ChA}{a:Option Addr}{c:Nat}(HR:Hid (w8.ownsRow W.heap.size 49 9 (.slice a xs.length c) xs.length (xs.flatMap ChA.cells)))(HK:Hid (∀x∈xs,x.Ok w8 WA.heap.size))(HC:Hid (Below WA.heap.size WA w8))(hWW:WA.heap.size<=W.heap.size:=by simp):
  Hid (HdV WA (w8.alloc (.cells #[.slice a xs.length c] 22)) w8.heap.size xs a c):=
 ⟨Blk.new _ _ _,own_base (own_under HR.out ((Below.refl _ _).alloc (Nat.le_refl _) _)) hWW,fun x hx=>(HK.out x hx).up ((Below.refl _ _).alloc HC.out.size _)⟩
theorem own_keep {w:World}{base:Nat}{e:TypeId}{a:Option Addr}{c:Nat}{x:ChA}{xs:List ChA}(h:w.ownsRow base e 9 (.slice a (x::xs).length c) (x::xs).length ((x::xs).flatMap ChA.cells)):∃g,a=some ⟨g,0,none⟩/\ w.cell? ⟨g,8,none⟩=some (.bool x.c.keep):=by
 rcases h.2 with⟨h0,_⟩ | ⟨g,cap,cur,e1,hg,hb,h1,h2,h3,h4⟩
 {cases h0}
 {(cases e1);refine⟨g,rfl,?_⟩;(have h5:(cur.toList.take ((x::xs).length*9))[0*9+8]? =((x::xs).flatMap ChA.cells)[0*9+8]? :=by rw[h4]);rw[List.getElem?_take_of_lt (by simp;omega),flatC_get _ 0 8 (by simp) (by decide)]at h5;simp only[World.cell?,hb];simp only[Option.isSome_none,Bool.false_eq_true,if_false];rw[<-Array.getElem?_toList];exact h5}
theorem hid_allocW {W w:World}(h:Hid (Below W.heap.size W w))(o:Obj):Hid (Below W.heap.size W (w.alloc o)):=h.out.alloc h.out.size o
theorem own_key {w:World}{base:Nat}{e:TypeId}{v:Value}{ks:List Key}(h:w.ownsRow base e 2 v ks.length (ks.flatMap kC)){k:Nat}(hk:k<ks.length):∃g cap,v=.slice (some ⟨g,0,none⟩) ks.length cap/\ base<=g/\ w.rangeAt g (k*2) [.string ks[k].1,.int .i64 ks[k].2]:=by
 rcases h.2 with⟨_,h0⟩ | ⟨g,cap,cur,rfl,hg,hb,h1,h2,h3,h4⟩
 {omega}
 ·refine⟨g,cap,rfl,hg,fun j u hj=>?_⟩
  have hj2:j<2:=by{(rcases Nat.lt_or_ge j 2 with h | h);{exact h};{rw[List.getElem?_eq_none (by exact h)]at hj;cases hj}}
  have h5:(cur.toList.take (ks.length*2))[k*2+j]? =(ks.flatMap kC)[k*2+j]? :=by rw[h4]
  rw[List.getElem?_take_of_lt (by omega),flat2 (enc:=kC) (fun _=>rfl) ks (k*2+j) (by omega),show(k*2+j) / 2=k by omega,show(k*2+j) % 2=j by omega,getElem!_pos ks k hk]at h5;simp only[World.cell?,hb];simp only[Option.isSome_none,Bool.false_eq_true,if_false];rw[<-Array.getElem?_toList,h5]
  match j,hj2,hj with| 0,_,hj=>exact hj| 1,_,hj=>exact hj
set_option maxRecDepth 100000 in
set_option maxHeartbeats 4000000 in
theorem governs_any (d:List Fa)(l:List Chg)(q:ByteArray)(o:Int)(c:List Int)(day:Int)(v u cv:Value)(w:World)(B:Nat)(hn:l.length<=12)(hB:B<=w.heap.size)(hl:SlIn ChR 9 w B l v)(hd:DomIn w B d u)(hc:IntsIn w B c cv)(hsz:∀p∈l,p.cond.size<=1000000):
    Calls Tryz.prog 12 #[v,u,.string q,.int .i64 o,cv,.int .i64 day] w fun e w'=>∃ks:List Key,(properC d l=true/\ fitsD d c=true/\ dayB o=true/\ dayB day=true/\ o<=day->KeysOf l ks)/\ e=.returned (.tuple #[.int .i64 (govA d l ks q o c day).1,.int .i64 (govA d l ks q o c day).2])/\ Below w.heap.size w w':=by
  obtain⟨u0,rfl,hd⟩:=hd;obtain⟨ad,cd,rfl,d1,d2,_⟩:=SlIn.shape hd;obtain⟨ap,cp,rfl,p1,p2,_⟩:=SlIn.shape hl;have HBW:Hid (Below w.heap.size w (w.alloc (.cells #[.slice ad d.length cd] 25))):=(Below.refl _ _).alloc (Nat.le_refl _) _;have K0:=Lib.hid (Blk.new w 25 #[.slice ad d.length cd]);have x0:=K0.out.cell 0;have HP:=Lib.hid hl;have HDM:Hid (DomIn w B d (.agg #[.slice ad d.length cd])):=⟨_,rfl,hd⟩;have HCV:=Lib.hid hc;have HSZ:=Lib.hid hsz;have HPR:=Lib.hid (rgProper_any d l _ _ (w.alloc (.cells #[.slice ad d.length cd] 25)) B (by simp;omega) (hl.below ChR.kept (HBW.out.mono hB)) (HDM.out.below (HBW.out.mono hB)) hsz);have HFI:Hid (∀W,Hid (Below w.heap.size w W)->Calls Tryz.prog 17 #[.agg #[.slice ad d.length cd],cv] W fun e w'=>e=.returned (.bool (fitsD d c))/\ Below W.heap.size W w'):=fun W hW=>fits_any d c _ _ W B (by have:=hW.out.size;omega) (HDM.out.below (hW.out.mono hB)) (HCV.out.below (hW.out.mono hB))
  clear hd hl hsz hc;have BAD:∀(ks:List Key),¬(properC d l=true/\ fitsD d c=true/\ dayB o=true/\ dayB day=true/\ o<=day)->govA d l ks q o c day=(0,1):=fun ks h=>by unfold govA;rw[if_neg h]
  have EMP:∀ {P:Prop},¬P->P->KeysOf l []:=fun h h'=>absurd h' h
  cases g1:properC d l with
  | false=>{rw[g1]at HPR;have HE:=Lib.hid (BAD [] (by simp[g1]));clear BAD;(go_enter Tryz.func12,Tryz.ntmps12);go_wp2_with (go_at_call 25;refine HPR.out.mono ?_;rintro e w2 ⟨rfl,hb2⟩;have HB2:=Lib.hid (HBW.out.trans (hb2.mono HBW.out.size));have K2:=Lib.hid (K0.out.below hb2);have z0:=K2.out.cell 0;clear hb2);go_ret2;exact⟨[],fun h=>(by cases h.1),by rw[HE.out];rfl,HB2.out⟩}
  | true=>
    rw[g1]at HPR;cases g2:fitsD d c with
    | false=>{rw[g2]at HFI;have HE:=Lib.hid (BAD [] (by simp[g2]));clear BAD;(go_enter Tryz.func12,Tryz.ntmps12);go_wp2_with (first | (go_at_call 25;refine HPR.out.mono ?_;rintro e w2 ⟨rfl,hb2⟩;have HB2:=Lib.hid (HBW.out.trans (hb2.mono HBW.out.size));have K2:=Lib.hid (K0.out.below hb2);have z0:=K2.out.cell 0;clear hb2) | (go_at_call 17;refine(HFI.out w2 HB2).mono ?_;rintro e w3 ⟨rfl,hb3⟩;have HB3:=Lib.hid (HB2.out.trans (hb3.mono HB2.out.size));have K3:=Lib.hid (K2.out.below hb3);clear hb3));go_ret2;exact⟨[],fun h=>(by cases h.2.1),by rw[HE.out];rfl,HB3.out⟩}
    | true=>
      rw[g2]at HFI;cases g3:dayB o with
      | false=>{have HE:=Lib.hid (BAD [] (by simp[g3]));clear BAD;(go_enter Tryz.func12,Tryz.ntmps12);go_wp2_with (first | (go_at_call 25;refine HPR.out.mono ?_;rintro e w2 ⟨rfl,hb2⟩;have HB2:=Lib.hid (HBW.out.trans (hb2.mono HBW.out.size));have K2:=Lib.hid (K0.out.below hb2);have z0:=K2.out.cell 0;clear hb2) | (go_at_call 17;refine(HFI.out w2 HB2).mono ?_;rintro e w3 ⟨rfl,hb3⟩;have HB3:=Lib.hid (HB2.out.trans (hb3.mono HB2.out.size));have K3:=Lib.hid (K2.out.below hb3);clear hb3) | (go_at_call 26;refine(isDay_any2 _ _ _ (by first | with_reducible exact g3 | with_reducible exact g4)).mono ?_;rintro e w7 ⟨rfl,rfl⟩));go_ret2;exact⟨[],fun h=>(by cases h.2.2.1),by rw[HE.out];rfl,HB3.out⟩}
      | true=>
        cases g4:dayB day with
        | false=>{have HE:=Lib.hid (BAD [] (by simp[g4]));clear BAD;(go_enter Tryz.func12,Tryz.ntmps12);go_wp2_with (first | (go_at_call 25;refine HPR.out.mono ?_;rintro e w2 ⟨rfl,hb2⟩;have HB2:=Lib.hid (HBW.out.trans (hb2.mono HBW.out.size));have K2:=Lib.hid (K0.out.below hb2);have z0:=K2.out.cell 0;clear hb2) | (go_at_call 17;refine(HFI.out w2 HB2).mono ?_;rintro e w3 ⟨rfl,hb3⟩;have HB3:=Lib.hid (HB2.out.trans (hb3.mono HB2.out.size));have K3:=Lib.hid (K2.out.below hb3);clear hb3) | (go_at_call 26;refine(isDay_any2 _ _ _ (by first | with_reducible exact g3 | with_reducible exact g4)).mono ?_;rintro e w7 ⟨rfl,rfl⟩));go_ret2;exact⟨[],fun h=>(by cases h.2.2.2.1),by rw[HE.out];rfl,HB3.out⟩}
        | true=>
          by_cases h5:o<=day
          . have g5:decide (day<o)=false:=decide_eq_false (by omega)
            have HG:Hid (∀ks,govA d l ks q o c day=govF (stepS d l c) q o day ks (-1)):=fun ks=>by unfold govA;rw[if_pos ⟨g1,g2,g3,g4,by omega⟩]
            have HPC:=Lib.hid (properC_iff.1 g1);clear BAD EMP
            (go_enter Tryz.func12,Tryz.ntmps12)
            go_wp2_with (first
              | (go_at_call 25;refine HPR.out.mono ?_;rintro e w2 ⟨rfl,hb2⟩;have HB2:=Lib.hid (HBW.out.trans (hb2.mono HBW.out.size));have K2:=Lib.hid (K0.out.below hb2);have z0:=K2.out.cell 0;clear hb2) | (go_at_call 17;refine(HFI.out w2 HB2).mono ?_;rintro e w3 ⟨rfl,hb3⟩;have HB3:=Lib.hid (HB2.out.trans (hb3.mono HB2.out.size));have K3:=Lib.hid (K2.out.below hb3);clear hb3) | (go_at_call 26;refine(isDay_any2 _ _ _ (by first | with_reducible exact g3 | with_reducible exact g4)).mono ?_;rintro e w7 ⟨rfl,rfl⟩)
              | (go_at_call 27;refine(steps_any l _ w3 B (by omega) (by have:=HB3.out.size;omega) (HP.out.below ChR.kept (HB3.out.mono hB))).mono ?_;rintro e w4 ⟨mb,xs,m,rfl,hb4,hx,hok,hst⟩
                 have HB4:=Lib.hid (HB3.out.trans (hb4.mono HB3.out.size))
                 have K4:=Lib.hid (K3.out.below hb4)
                 have HX:=Lib.hid hx
                 have HOK:=Lib.hid hok
                 have HST:=Lib.hid hst
                 have HM5:=Lib.hid (hst.below ((Below.refl _ _).alloc (Nat.le_refl _) (.cells #[.map (some mb)] 54)))
                 have hxl:xs.length=l.length:=by rw[<-hx,List.length_map]
                 have HSF:=Lib.hid (sortedKeys_any w4.heap.size mb m (w4.alloc (.cells #[.map (some mb)] 54)) (Blk.new _ _ _) HM5.out.map (by have:=hst.len;omega) hst.nodup (fun k hk=>by
                   obtain⟨x,hx1,hx2⟩:=(hst.keys k).1 hk
                   have:=(HPC.out.each x.c (by rw[<-HX.out];exact List.mem_map_of_mem hx1)).2.2.1
                   rw[<-hx2]
                   exact day_iff.1 this))
                 clear hb4 hx hok hst hxl)
              | (go_at_call 29;refine(keys_any mb w4).mono ?_;rintro e w5 ⟨rfl,rfl⟩)
              | (go_at_call 28;refine HSF.out.mono ?_;rintro e w6 ⟨kv,ks,rfl,hp6,hs6,hr6,hb6⟩
                 have hbk:Below w4.heap.size w4 w6:=((Below.refl _ _).alloc (Nat.le_refl _) _).trans (hb6.mono (by simp))
                 have HB6:=Lib.hid (HB4.out.trans (hbk.mono HB4.out.size))
                 have K6:=Lib.hid (K4.out.below hbk)
                 have HST6:=Lib.hid (HST.out.below hbk)
                 have HO6:Hid (∀x∈xs,x.Ok w6 B):=fun x hx=>(HOK.out x hx).up (hbk.mono (by have:=HB4.out.size;omega))
                 have HKO:=Lib.hid (HST.out.keysOf HX.out hp6 hs6)
                 have HR6:=Lib.hid hr6
                 have hks:ks.length<=12:=by{have e1:=hp6.length_eq;have e2:=HST.out.len;have e3:=congrArg List.length HX.out;rw[List.length_map]at e1 e3;omega}
                 obtain⟨ka,kc,hkv⟩:=own_len hr6
                 subst hkv
                 clear hp6 hs6 hr6 hb6 hbk))
            have HG0:=Lib.hid (HG.out ks);clear HM5 HSF K0 K2 K3 HB2 HB3 HB4 K4 HOK HST HPR HFI z0 x0
            go_loopw [15,50] (fun fv iv wr=>∃(k:Nat) (fz:Int),k<=ks.length/\ iv=.int .i64 k/\ fv=.int .i64 fz/\ Hid (fz= -1\/(0<=fz/\ fz<=1000000))/\ Hid (govA d l ks q o c day=govF (stepS d l c) q o day (ks.drop k) fz)/\ Hid (Below w6.heap.size w6 wr)) (fun _ iv _=>ks.length-(intOf iv).toNat)
            case atStart=>exact⟨0, -1,Nat.zero_le _,rfl,rfl,.inl rfl,HG0,Below.refl _ _⟩
            case round=>
              obtain⟨k,fz,hk,rfl,rfl,HF,HI,HW⟩:=hrel;by_cases hlt:k<ks.length
              . obtain⟨kg,kcap,hkv,hkg,hkr⟩:=own_key HR6.out hlt
                cases hkv
                have hkl:kg<w6.heap.size:=(HR6.out.lt kg rfl).2;have HKR:=Lib.hid (rng_below hkr HW.out hkl);have hI:=HI.out;rw[List.drop_eq_getElem_cons hlt]at hI
                have hdk:0<=ks[k].2/\ ks[k].2<=1000000:=by{obtain⟨x,hx,e⟩:=(HKO.out.mem _).1 (List.getElem_mem hlt);have:=day_iff.1 (HPC.out.each x hx).2.2.1;rw[<-e];exact this}
                generalize hke:ks[k]=ky at*
                obtain⟨kq,kd⟩:=ky;have HIN:Hid (govA d l ks q o c day=govF (stepS d l c) q o day ((kq,kd)::ks.drop (k+1)) fz):=hI;have hstk:=HST6.out.below HW.out;have HSTK:=Lib.hid hstk;have HDK:=Lib.hid hdk;clear hI hkr hkg hstk hdk;by_cases r1:kq=q
                . have t1:(kq.toList==q.toList)=true:=by rw[r1];simp
                  by_cases r2:kd<=o
                  . have t2:decide (kd<=o)=true:=decide_eq_true r2
                    have HI9:Hid (govA d l ks q o c day=govF (stepS d l c) q o day (ks.drop (k+1)) fz):=by{show _=_;rw[HIN.out,govF,if_neg (fun h=>by have:=(rel_iff.1 h).2.1;omega)]}
                    clear HIN;go_wp2_with ((with_reducible show wpList _ _ _ (⟨_,Op.load 59 (.tmp 52),_,_,_,_⟩::_) _ _);refine wpList_load_mid rfl 59 (.tmp 52) rfl kg (k*2) (by first | rfl | (simp;done)) [.string kq,.int .i64 kd] _ HKR.out Tryz.underlying59 rfl step_info ?_)
                    (have HW9:∀ob,Hid (Below w6.heap.size w6 (wr.alloc ob)):=fun ob=>HW.out.alloc HW.out.size ob;go_roundw;(case rel=>exact⟨k+1,fz,by omega,by go_num,by first | rfl | trivial,HF,HI9,HW9 _⟩);(case measure=>simp[intOf];omega))
                  . have t2:decide (kd<=o)=false:=decide_eq_false r2
                    by_cases r3:kd<=day
                    . have t3:decide (day<kd)=false:=decide_eq_false (by omega)
                      subst r1
                      have HI9:Hid (govA d l ks kq o c day=(if(stepS d l c (kq,kd)).1=0 then govF (stepS d l c) kq o day (ks.drop (k+1)) (if(stepS d l c (kq,kd)).2=true then(if fz<0 then kd-1 else fz)else-1)else(0,(stepS d l c (kq,kd)).1))):=by{have hrel:relK kq o day (kq,kd)=true:=rel_iff.2 ⟨rfl,(by omega:o<kd),r3⟩;show _=_;rw[HIN.out,govF,if_pos hrel]}
                      clear HIN;go_upto_region 9 with((with_reducible show wpList _ _ _ (⟨_,Op.load 59 (.tmp 52),_,_,_,_⟩::_) _ _);refine wpList_load_mid rfl 59 (.tmp 52) rfl kg (k*2) (by first | rfl | (simp;done)) [.string kq,.int .i64 kd] _ HKR.out Tryz.underlying59 rfl step_info ?_);have hkey:=(Blk.new wr 59 #[.string kq,.int .i64 kd]);have HW1:Hid (Below w6.heap.size w6 (wr.alloc (.cells #[.string kq,.int .i64 kd] 59))):=HW.out.alloc HW.out.size _;have hwrs:(wr.alloc (.cells #[.string kq,.int .i64 kd] 59)).heap.size=wr.heap.size+1:=World.size_alloc ..;generalize hWA:wr.alloc (.cells #[.string kq,.int .i64 kd] 59)=WA at*
                      have HST7:=Lib.hid (HST6.out.below HW1.out);obtain⟨ra,rn,rc,hrow⟩:=own_shape (HST7.out.row (kq,kd))
                      have hsl:SlIn ChR 9 WA WA.heap.size (stepR l (kq,kd)) (.slice ra rn rc):=by{have:=own_chs (HST7.out.row (kq,kd)) (Nat.le_refl _) (fun x hx=>((HO6.out x (List.mem_filter.1 hx).1).up (HW1.out.mono (by have:=HB6.out.size;omega))).mono (by have:=HW1.out.size;have:=HB6.out.size;omega));rw[stepA_map,HX.out,hrow]at this;exact this}
                      have HSL:=Lib.hid hsl;have hwb:Below w.heap.size w WA:=HB6.out.trans (HW1.out.mono HB6.out.size);have HWB:=Lib.hid hwb
                      have HLD:Hid (∀W',Hid (Below WA.heap.size WA W')->Calls Tryz.prog 31 #[.slice ra rn rc,.agg #[.slice ad d.length cd],cv] W' fun e w'=>∃(a:Option Addr) (xs:List ChA) (k:Nat),e=.returned (.slice a xs.length k)/\ Hid (xs.map ChA.c=holdR d c (stepR l (kq,kd)))/\ Hid (w'.ownsRow W'.heap.size 49 9 (.slice a xs.length k) xs.length (xs.flatMap ChA.cells))/\ Hid (∀x∈xs,x.Ok w' WA.heap.size)/\ Hid (Below W'.heap.size W' w')/\ Hid (Below WA.heap.size WA w')):=fun W' hb=>by{refine(holdingA_any d _ c _ _ _ W' WA.heap.size (by have:=List.length_filter_le (fun x:Chg=>decide (x.key=(kq,kd))) l;unfold stepR;omega) hb.out.size (HSL.out.below ChR.kept hb.out) ((HDM.out.below (HWB.out.mono hB)).mono (by have:=HWB.out.size;omega) |>.below hb.out) (IntsIn.below hb.out (SlIn.mono (OneR.mono _) (show B<=WA.heap.size by have:=HWB.out.size;omega) (HCV.out.below (HWB.out.mono hB)))) (fun p hp=>HSZ.out p (List.mem_filter.1 hp).1)).mono ?_;rintro e w' ⟨r,xs,rfl,h1,h2,h3,h4⟩;obtain⟨a,k,rfl⟩:=own_len h3;exact⟨a,xs,k,rfl,h2,h3,h4,h1,hb.out.trans (h1.mono hb.out.size)⟩}
                      have k0:=hkey.cell 0;have k1:=hkey.cell 1;simp only[List.getElem?_toArray,List.getElem?_cons_zero,List.getElem?_cons_succ]at k0 k1;have k2:=(K6.out.below HW1.out).cell 0;simp only[List.getElem?_toArray,List.getElem?_cons_zero]at k2;have kl0:wr.heap.size<WA.heap.size:=by omega
                      have kl2:w.heap.size<WA.heap.size:=by have:=(K6.out.below HW1.out).lt;omega
                      have HKP:Hid (∀w',Hid (Below WA.heap.size WA w')->(w'.cell? ⟨wr.heap.size,0,none⟩=some (.string kq)/\ w'.cell? ⟨wr.heap.size,1,none⟩=some (.int .i64 kd)/\ w'.cell? ⟨w.heap.size,0,none⟩=some (.slice ad d.length cd)/\ (Instr.lookup 54 (.map (some mb)) (.agg #[.string kq,.int .i64 kd]) false).run Tryz.prog w'=.ok (.slice ra rn rc) w')/\ Hid (Below WA.heap.size WA w')):=fun w' hb=>by{have hlk:(Instr.lookup 54 (.map (some mb)) (ekK (kq,kd)) false).run Tryz.prog w'=.ok (rowOf m (kq,kd)) w':=by{have h:=run_lookB Tryz.underlying54 zero_row (HST7.out.below hb.out).map (kq,kd);unfold rowOf;cases hm:m.lookup (kq,kd)with| none=>rw[hm]at h;exact h| some x=>rw[hm]at h;exact h};rw[hrow]at hlk;refine⟨⟨(hb.out.cell (p:=⟨wr.heap.size,0,none⟩) kl0).trans k0,(hb.out.cell (p:=⟨wr.heap.size,1,none⟩) kl0).trans k1,(hb.out.cell (p:=⟨w.heap.size,0,none⟩) kl2).trans k2,hlk⟩,hb⟩}
                      have HBa:Hid (Below WA.heap.size WA WA):=Below.refl _ _;have HBb:Hid (Below WA.heap.size WA WA.drew):=(Below.refl _ _).drew;clear k0 k1 k2 hkey hwrs hWA hsl hwb hrow
                      go_cut[18] (fun s18 wx=>∃(RB:Nat) (xs:List ChA) (a9:Option Addr) (c9:Nat),s18=.pointer (some ⟨RB,0,none⟩)/\ Hid (xs.map ChA.c=holdR d c (stepR l (kq,kd)))/\ Hid (HdV WA wx RB xs a9 c9)/\ Hid (Below WA.heap.size WA wx))
                      case first=>
                          refine wp_region_held_drew (S:=(fun w':World=>Hid (Below WA.heap.size WA w'))) (by kernel_rfl) HBb (fun hHeld=>?_);refine tp 0 ?_;refine tk 1 ?v1 ?y1 ?_
                          case y1=>(intro w9 hSw;obtain⟨⟨y0,y1,y2,y3⟩,_⟩:=HKP.out w9 hSw;go_simp;try with_reducible rfl)
                          refine tk 3 ?v3 ?y3 ?_
                          case y3=>(intro w9 hSw;obtain⟨⟨y0,y1,y2,y3⟩,_⟩:=HKP.out w9 hSw;go_simp;try with_reducible rfl)
                          refine tp 4 ?_;refine tk 2 ?v2 ?y2 ?_
                          case y2=>(intro w9 hSw;obtain⟨⟨y0,y1,y2,y3⟩,_⟩:=HKP.out w9 hSw;go_simp;try with_reducible rfl)
                          refine tt 5 6 (fun K hK=>?_) (fun K hK=>?_)
                          . skip
                            (go_simp;go_at_call 31;refine(HLD.out _ (by first | assumption | exact HBb | exact hid_allocW HBb _ | exact hid_allocW (by assumption) _)).mono ?_;rintro e w8 ⟨a8,xs8,k8,rfl,HX8,HR8,HK8,HB8,HC8⟩;first | (have HA8:Hid (Blk w8 WA.heap.size _ _):=hd_newd HB8.out;have HL8:Hid (WA.heap.size<=WA.heap.size):=Nat.le_refl _) | (have HA8:Hid (Blk w8 WA.drew.heap.size _ _):=hd_new HB8.out;have HL8:Hid (WA.heap.size<=WA.drew.heap.size):=(Below.refl WA.heap.size WA).drew.size) | have FLAG:(0:Nat)=0:=rfl)
                            refine hK.out _ _ ?_ (fun hHeld=>?_)
                            . exact HC8
                            clear hK K
                            try simp only[Act.put,sA,sB,sC]
                            refine tr 6 (fun K hK=>?_)
                            go_simp
                            refine hK.out _ _ ?_ (fun hHeld=>?_)
                            . first | exact hid_allocW HC8 _ | exact(by first | assumption | exact HBb | exact hid_allocW HBb _ | exact hid_allocW (by assumption) _)
                            clear hK K
                            try simp only[Act.put,sA,sB,sC]
                            refine tr 7 (fun K hK=>?_)
                            (first | (have zz:(0:Nat)=0:=FLAG;clear zz;go_simp) | (have cz:=HA8.out.cell 0;have fz:=HA8.out.frozen 0;go_simp))
                            refine hK.out _ _ ?_ (fun hHeld=>?_)
                            . first | exact hd_set HC8 HL8 | exact hid_allocW HC8 _
                            clear hK K
                            try simp only[Act.put,sA,sB,sC]
                            refine wpAnyH_done (by kernel_rfl) ?_ _
                            (go_wp2;go_meet;first | exact⟨_,xs8,_,_,rfl,HX8,hold_set HA8 HR8 HK8 HL8,hd_set HC8 HL8⟩ | exact⟨_,xs8,_,_,rfl,HX8,hold_new HR8 HK8 HC8,hid_allocW HC8 _⟩)
                          . skip
                            go_simp
                            refine hK.out _ _ ?_ (fun hHeld=>?_)
                            . first | exact hid_allocW HC8 _ | exact(by first | assumption | exact HBb | exact hid_allocW HBb _ | exact hid_allocW (by assumption) _)
                            clear hK K
                            try simp only[Act.put,sA,sB,sC]
                            refine tr 5 (fun K hK=>?_)
                            (go_simp;go_at_call 31;refine(HLD.out _ (by first | assumption | exact HBb | exact hid_allocW HBb _ | exact hid_allocW (by assumption) _)).mono ?_;rintro e w8 ⟨a8,xs8,k8,rfl,HX8,HR8,HK8,HB8,HC8⟩;first | (have HA8:Hid (Blk w8 WA.heap.size _ _):=hd_newd HB8.out;have HL8:Hid (WA.heap.size<=WA.heap.size):=Nat.le_refl _) | (have HA8:Hid (Blk w8 WA.drew.heap.size _ _):=hd_new HB8.out;have HL8:Hid (WA.heap.size<=WA.drew.heap.size):=(Below.refl WA.heap.size WA).drew.size) | have FLAG:(0:Nat)=0:=rfl)
                            refine hK.out _ _ ?_ (fun hHeld=>?_)
                            . exact HC8
                            clear hK K
                            try simp only[Act.put,sA,sB,sC]
                            refine tr 7 (fun K hK=>?_)
                            (first | (have zz:(0:Nat)=0:=FLAG;clear zz;go_simp) | (have cz:=HA8.out.cell 0;have fz:=HA8.out.frozen 0;go_simp))
                            refine hK.out _ _ ?_ (fun hHeld=>?_)
                            . first | exact hd_set HC8 HL8 | exact hid_allocW HC8 _
                            clear hK K
                            try simp only[Act.put,sA,sB,sC]
                            refine wpAnyH_done (by kernel_rfl) ?_ _
                            (go_wp2;go_meet;first | exact⟨_,xs8,_,_,rfl,HX8,hold_set HA8 HR8 HK8 HL8,hd_set HC8 HL8⟩ | exact⟨_,xs8,_,_,rfl,HX8,hold_new HR8 HK8 HC8,hid_allocW HC8 _⟩)
                      case rest=>
                        obtain⟨RB,xs,a9,c9,rfl,HX9,HV9,HB9⟩:=hcut;rename World=>wx
                        have HSS:Hid (stepS d l c (kq,kd)=decideR (xs.map ChA.c)):=by show _=_;unfold stepS;rw[HX9.out]
                        obtain⟨⟨_,y1,_,_⟩,_⟩:=HKP.out wx HB9;have b0:=HV9.out.box.cell 0;have HBX:Hid (Below w6.heap.size w6 wx):=HW1.out.trans (HB9.out.mono HW1.out.size);clear HKP HLD HSL HBa HBb;cases xs with
                        | nil=>{(have HI2:Hid (govA d l ks kq o c day=(0,11)):=by show _=_;rw[HI9.out,HSS.out];rfl);clear HI9 HSS;go_wp2;go_ret2;exact⟨ks,by first | exact fun _=>HKO.out | exact HKO.out,by rw[HI2.out];rfl,HB6.out.trans (HBX.out.mono HB6.out.size)⟩}
                        | cons x xs=>
                          obtain⟨g9,rfl,hg9⟩:=own_keep HV9.out.own;have HCT:=Lib.hid (containsCh_any ((x::xs).map ChA.c) RB x.c.keep (.slice (some ⟨g9,0,none⟩) (x::xs).length c9) wx wx.heap.size g9 0 (x::xs).length c9 (Nat.le_refl _) (own_chs HV9.out.own (Nat.le_refl _) (fun y hy=>(HV9.out.ok y hy).mono (by have:=HB9.out.size;omega))) b0 (by simp) (by simpa using hg9));obtain⟨R,hR⟩:∃R,(((x::xs).map ChA.c).any fun y=>y.keep !=x.c.keep)=R:=⟨_,rfl⟩;have HD9:Hid (stepS d l c (kq,kd)=if R=true then(9,false)else(0,x.c.keep)):=by show _=_;rw[HSS.out, <-hR];rfl
                          rw[hR]at HCT;obtain⟨n9,hn9⟩:∃n9,(x::xs).length=n9:=⟨_,rfl⟩;have hn0:0<n9:=by rw[<-hn9];simp
                          have hz9:((n9:Int)==0)=false:=by simp;omega
                          have hi9:decide ((0:Int)<(n9:Int))=true:=decide_eq_true (by omega);rw[hn9]at HCT b0;have HGC:=Lib.hid hg9;have hgl:g9<wx.heap.size:=World.block_lt_of_cell? _ _ hg9;have hbl:RB<wx.heap.size:=World.block_lt_of_cell? _ _ b0;have hwl:wr.heap.size<wx.heap.size:=World.block_lt_of_cell? _ _ y1;have HYC:=Lib.hid y1;have HBC:=Lib.hid b0;clear HSS HX9 HV9 hR hn9;generalize x.c.keep=kp at*
                          cases R with
                          | true=>{(have HI2:Hid (govA d l ks kq o c day=(0,9)):=by show _=_;rw[HI9.out,HD9.out];rfl);clear HI9 HD9;go_wp2_with (go_at_call 32;refine HCT.out.mono ?_;rintro e w8 ⟨rfl,hb8⟩);go_ret2;exact⟨ks,by first | exact fun _=>HKO.out | exact HKO.out,by rw[HI2.out];rfl,HB6.out.trans ((HBX.out.trans (hb8.mono HBX.out.size)).mono HB6.out.size)⟩}
                          | false=>
                            have HI2:Hid (govA d l ks kq o c day=govF (stepS d l c) kq o day (ks.drop (k+1)) (if kp=true then(if fz<0 then kd-1 else fz)else-1)):=by show _=_;rw[HI9.out,HD9.out];rfl
                            clear HI9 HD9;have ho0:=(day_iff.1 g3).1;have hd1:=HDK.out;cases kp with
                            | false=>{go_wp2_with (go_at_call 32;refine HCT.out.mono ?_;rintro e w8 ⟨rfl,hb8⟩;have z0:=(hb8.cell (p:=⟨RB,0,none⟩) hbl).trans HBC.out;have z1:=(hb8.cell (p:=⟨g9,8,none⟩) hgl).trans HGC.out;have HW9:=Lib.hid (HBX.out.trans (hb8.mono HBX.out.size));clear hb8);go_roundw;(case rel=>exact⟨k+1, -1,by omega,by go_num,by first | rfl | trivial,.inl rfl,HI2,HW9⟩);case measure=>simp[intOf];omega}
                            | true=>
                              by_cases hf0:fz<0
                              . have gf:decide (fz<0)=true:=decide_eq_true hf0
                                have gw:IntKind.i64.wrap (kd-1)=kd-1:=IntWalk.i64_in (kd-1) (by omega);rw[if_pos rfl,if_pos hf0]at HI2;go_wp2_with (go_at_call 32;refine HCT.out.mono ?_;rintro e w8 ⟨rfl,hb8⟩;have z0:=(hb8.cell (p:=⟨RB,0,none⟩) hbl).trans HBC.out;have z1:=(hb8.cell (p:=⟨g9,8,none⟩) hgl).trans HGC.out;have z2:=(hb8.cell (p:=⟨wr.heap.size,1,none⟩) hwl).trans HYC.out;have HW9:=Lib.hid (HBX.out.trans (hb8.mono HBX.out.size));clear hb8);go_roundw
                                case rel=>exact⟨k+1,kd-1,by omega,by go_num,by first | rfl | trivial | rw[gw],.inr ⟨by omega,by omega⟩,HI2,HW9⟩
                                case measure=>simp[intOf];omega
                              . have gf:decide (fz<0)=false:=decide_eq_false hf0
                                rw[if_pos rfl,if_neg hf0]at HI2;go_wp2_with (go_at_call 32;refine HCT.out.mono ?_;rintro e w8 ⟨rfl,hb8⟩;have z0:=(hb8.cell (p:=⟨RB,0,none⟩) hbl).trans HBC.out;have z1:=(hb8.cell (p:=⟨g9,8,none⟩) hgl).trans HGC.out;have HW9:=Lib.hid (HBX.out.trans (hb8.mono HBX.out.size));clear hb8);go_roundw
                                case rel=>exact⟨k+1,fz,by omega,by go_num,by first | rfl | trivial,HF,HI2,HW9⟩
                                case measure=>simp[intOf];omega
                    . have t3:decide (day<kd)=true:=decide_eq_true (by omega)
                      have HI9:Hid (govA d l ks q o c day=govF (stepS d l c) q o day (ks.drop (k+1)) fz):=by{show _=_;rw[HIN.out,govF,if_neg (fun h=>by have:=(rel_iff.1 h).2.2;omega)]}
                      clear HIN;go_wp2_with ((with_reducible show wpList _ _ _ (⟨_,Op.load 59 (.tmp 52),_,_,_,_⟩::_) _ _);refine wpList_load_mid rfl 59 (.tmp 52) rfl kg (k*2) (by first | rfl | (simp;done)) [.string kq,.int .i64 kd] _ HKR.out Tryz.underlying59 rfl step_info ?_)
                      (have HW9:∀ob,Hid (Below w6.heap.size w6 (wr.alloc ob)):=fun ob=>HW.out.alloc HW.out.size ob;go_roundw;(case rel=>exact⟨k+1,fz,by omega,by go_num,by first | rfl | trivial,HF,HI9,HW9 _⟩);(case measure=>simp[intOf];omega))
                . have t1:(kq.toList==q.toList)=false:=by rw[beq_eq_false_iff_ne];intro e;exact r1 (eq_ofL e)
                  have HI9:Hid (govA d l ks q o c day=govF (stepS d l c) q o day (ks.drop (k+1)) fz):=by{show _=_;rw[HIN.out,govF,if_neg (fun h=>r1 (rel_iff.1 h).1)]}
                  clear HIN;go_wp2_with ((with_reducible show wpList _ _ _ (⟨_,Op.load 59 (.tmp 52),_,_,_,_⟩::_) _ _);refine wpList_load_mid rfl 59 (.tmp 52) rfl kg (k*2) (by first | rfl | (simp;done)) [.string kq,.int .i64 kd] _ HKR.out Tryz.underlying59 rfl step_info ?_)
                  (have HW9:∀ob,Hid (Below w6.heap.size w6 (wr.alloc ob)):=fun ob=>HW.out.alloc HW.out.size ob;go_roundw;(case rel=>exact⟨k+1,fz,by omega,by go_num,by first | rfl | trivial,HF,HI9,HW9 _⟩);(case measure=>simp[intOf];omega))
              . have HE:Hid (govA d l ks q o c day=(if 0<=fz then fz else day,0)):=by show _=_;rw[HI.out,List.drop_of_length_le (by omega)];rfl
                by_cases h0:0<=fz
                . have gz:decide (0<=fz)=true:=decide_eq_true h0
                  rw[if_pos h0]at HE;go_wp2;go_ret2;exact⟨ks,by first | exact fun _=>HKO.out | exact HKO.out,by rw[HE.out];rfl,HB6.out.trans (HW.out.mono HB6.out.size)⟩
                . have gz:decide (0<=fz)=false:=decide_eq_false h0
                  rw[if_neg h0]at HE;go_wp2;go_ret2;exact⟨ks,by first | exact fun _=>HKO.out | exact HKO.out,by rw[HE.out];rfl,HB6.out.trans (HW.out.mono HB6.out.size)⟩
          . have g5:decide (day<o)=true:=decide_eq_true (by omega)
            have HE:=Lib.hid (BAD [] (by simp[h5]));clear BAD
            (go_enter Tryz.func12,Tryz.ntmps12)
            go_wp2_with (first | (go_at_call 25;refine HPR.out.mono ?_;rintro e w2 ⟨rfl,hb2⟩;have HB2:=Lib.hid (HBW.out.trans (hb2.mono HBW.out.size));have K2:=Lib.hid (K0.out.below hb2);have z0:=K2.out.cell 0;clear hb2) | (go_at_call 17;refine(HFI.out w2 HB2).mono ?_;rintro e w3 ⟨rfl,hb3⟩;have HB3:=Lib.hid (HB2.out.trans (hb3.mono HB2.out.size));have K3:=Lib.hid (K2.out.below hb3);clear hb3) | (go_at_call 26;refine(isDay_any2 _ _ _ (by first | with_reducible exact g3 | with_reducible exact g4)).mono ?_;rintro e w7 ⟨rfl,rfl⟩));go_ret2;exact⟨[],fun h=>absurd h.2.2.2.2 (by omega),by rw[HE.out];rfl,HB3.out⟩
end Go.Proofs.YtihniipjfdenbaaGreatDoor
