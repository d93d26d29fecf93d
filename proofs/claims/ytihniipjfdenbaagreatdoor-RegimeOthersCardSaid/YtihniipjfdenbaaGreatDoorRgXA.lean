/- The walk of pandectref33.Same, of one list. No conditions. -/
import Derived.Test.YtihniipjfdenbaaGreatDoorRgEA
import Derived.Test.YtihniipjfdenbaaGreatDoorRgU
import Derived.Test.YtihniipjfdenbaaGreatDoorRgYA
set_option maxRecDepth 100000
set_option maxHeartbeats 4000000
namespace Go.Proofs.YtihniipjfdenbaaGreatDoor
open Go.RowKit
theorem anstp_alloc {A:Nat}{W w:World}(h:AnStp A W w)(o:Obj):AnStp A W (w.alloc o):=h.trans (AnStp.of_below ((Below.refl _ _).alloc (Nat.le_refl _) o))
theorem anstp_set {A:Nat}{W w:World}(h:AnStp A W w){b:Nat}(hb:W.heap.size<=b)(v:Value):AnStp A W (w.setCell ⟨b,0,none⟩ v):=
 ⟨h.os,h.tape,h.output,by rw[World.size_setCell];exact h.size,fun k hk hne=>(heap_setCell_other w ⟨b,0,none⟩ k v (by show k≠b;omega)).trans (h.old k hk hne)⟩
structure AnE (A : Nat) (ad : Option Addr) (n cd : Nat) (e : Int) (W W' : World) : Prop where
 step:AnStp A W W'
 same:e=0->Below W.heap.size W W'
 box:AnB W' A ad n cd e
structure GVar (W : World) (b : Nat) (e : Int) (t : List Dn) (a : Option Addr) (n c : Nat) : Prop where
 box:Blk W b 75 #[.slice a n c]
 dg:e=0->DgIn W W.heap.size t (.agg #[.slice a n c])
 any:DgAny W (.agg #[.slice a n c])
section
variable {d : List Fa} {A : Nat} {ad : Option Addr} {n cd : Nat} {e e' : Int} {W W1 W2 : World}
theorem AnE.trans (h:AnE A ad n cd e W W1)(k:AnE A ad n cd e' W1 W2)(he:e'=0->e=0):AnE A ad n cd e' W W2:=
 ⟨h.step.trans k.step,fun hz=>(h.same (he hz)).trans ((k.same hz).mono (h.same (he hz)).size),k.box⟩
theorem GVar.step {b:Nat}{t:List Dn}{a:Option Addr}{m c:Nat}(h:GVar W b e t a m c)(hA:AnB W A ad n cd e)(hE:AnE A ad n cd e' W W1)(he:e'=0->e=0)(hb:b≠A):GVar W1 b e' t a m c:=
 ⟨hE.step.blk h.box hb,fun hz=>((h.dg (he hz)).below (hE.same hz)).mono (hE.same hz).size,h.any.spoil hA hE.box hE.step⟩
theorem gvar_new {st:List Dn×Int}{a:Option Addr}{m c:Nat}(h:AnQ d A ad cd st W W1 (.agg #[.slice a m c])):AnE A ad d.length cd st.2 W (W1.alloc (.cells #[.slice a m c] 75))/\ GVar (W1.alloc (.cells #[.slice a m c] 75)) W1.heap.size st.2 st.1 a m c:=by
 have q:=h.belowR ((Below.refl _ _).alloc (Nat.le_refl _) (.cells #[.slice a m c] 75));exact⟨⟨q.step,q.same,q.box⟩,Blk.new _ _ _,q.dg,q.any⟩
theorem bothN_new {st:List Dn×Int}{a:Option Addr}{m c:Nat}(h:Hid (AnQ d A ad cd st W W1 (.agg #[.slice a m c]))):Hid (AnE A ad d.length cd st.2 W (W1.alloc (.cells #[.slice a m c] 75)))/\ Hid (GVar (W1.alloc (.cells #[.slice a m c] 75)) W1.heap.size st.2 st.1 a m c)/\ Hid (W.heap.size<=W1.heap.size):=
 ⟨(gvar_new h.out).1,(gvar_new h.out).2,h.out.step.size⟩
theorem bothN_set {st:List Dn×Int}{a a0:Option Addr}{m c b n0 c0:Nat}(h:Hid (AnQ d A ad cd st W W1 (.agg #[.slice a m c])))(hz:Hid (Blk W1 b 75 #[.slice a0 n0 c0]))(hW:W.heap.size<=b)(hne:b≠A):Hid (AnE A ad d.length cd st.2 W (W1.setCell ⟨b,0,none⟩ (.slice a m c)))/\ Hid (GVar (W1.setCell ⟨b,0,none⟩ (.slice a m c)) b st.2 st.1 a m c)/\ Hid (W.heap.size<=b):=by
 have q:=h.out.var hz.out hW hne (.slice a m c);exact⟨⟨q.step,q.same,q.box⟩,⟨blk_one hz.out _,q.dg,q.any⟩,hW⟩
structure NtR (W : World) (e : Int) (t t2 : List Dn) (a : Option Addr) (k : Nat) : Prop where
 dg:DgIn W W.heap.size (notD t2) (.agg #[.slice a (notD t2).length k])
 eq:e=0->t2=t
 len:t2.length<=1000000
theorem gvar_not {b:Nat}{t:List Dn}{a:Option Addr}{m c:Nat}(h:Hid (GVar W b e t a m c))(hl:e=0->t.length<=1000000)(hb:Hid (Below W.heap.size W W1)):
  Calls Tryz.prog 43 #[.agg #[.slice a m c]] W1 fun r w'=>∃(t2:List Dn) (a':Option Addr) (k':Nat),r=.returned (.agg #[.slice a' (notD t2).length k'])/\ Hid (NtR w' e t t2 a' k')/\ Hid (Below W1.heap.size W1 w')/\ Hid (Below W.heap.size W w')/\ W.heap.size<=w'.heap.size:=by
 by_cases h0:e=0
 {refine(notG_any (hl h0) (((h.out.dg h0).below hb.out).mono hb.out.size)).mono ?_;rintro e w' ⟨a',k',rfl,h1,h2⟩;exact⟨t,a',k',rfl,⟨h1,fun _=>rfl,hl h0⟩,h2,hb.out.trans (h2.mono hb.out.size),Nat.le_trans hb.out.size h2.size⟩}
 {obtain⟨g,hg,h1⟩:=h.out.any;refine(notG_any hg ((h1.below hb.out).mono hb.out.size)).mono ?_;rintro e w' ⟨a',k',rfl,h1,h2⟩;exact⟨g,a',k',rfl,⟨h1,fun hz=>absurd hz h0,hg⟩,h2,hb.out.trans (h2.mono hb.out.size),Nat.le_trans hb.out.size h2.size⟩}
end
theorem noneX_zero {d:List Fa}{e:Int}{fs:List Fo}(h:(noneX d e fs).2=0):e=0:=(noneX_ok h).1
theorem noneX_len {d:List Fa}{e:Int}{fs:List Fo}(h:(noneX d e fs).2=0):(noneX d e fs).1.length<=1000000:=valid_len (noneX_ok h).2.1
theorem gap_eq (d:List Fa)(R:List Chg):noneX d 0 ((R.filter (fun _=>true)).map (·.cond))=gapX d R:=by
 unfold gapX;rw[List.filter_eq_self.2 (fun _ _=>rfl)]
theorem StM.stp {w w':World}{base mb O:Nat}{l:List ChA}{m:List (Key×Value)}(h:StM w base mb l m)(hs:AnStp O w w')(hO:O<base):StM w' base mb l m:=
 ⟨h.map.of_block (hs.old mb h.map.lt (by have:=h.ge;omega)),h.ge,h.nodup,h.len,h.keys,fun k=>own_stp (h.row k) hs hO,h.apart⟩
theorem rng_stp {w w':World}{O b o:Nat}{cs:List Value}(h:w.rangeAt b o cs)(hs:AnStp O w w')(hb:b<w.heap.size)(hne:b≠O):w'.rangeAt b o cs:=range_block h (hs.old b hb hne)
section
variable {w w' : World} {O base : Nat} {ov ov' : Value} {xs xs' : List FnA}
theorem RepQ.below (h:RepQ w w' O base ov ov' xs xs'){B:Nat}(hB:B<=w.heap.size)(hO:B<=O)(hg:∀g,ov.ownBlock=some g->B<=g):Below B w w':=
 ⟨h.os,h.tape,h.output,h.size,fun b hb=>h.old b (by omega) (by omega) fun e=>by have:=hg b e.symm;omega⟩
theorem RepQ.blk (h:RepQ w w' O base ov ov' xs xs'){b:Nat}{t:TypeId}{cs:Array Value}(hb:Blk w b t cs)(hO:b≠O)(hg:∀g,ov.ownBlock=some g->g≠b):Blk w' b t cs:=(h.old b hb.lt hO fun e=>hg b e.symm rfl).trans hb
theorem RepQ.own (h:RepQ w w' O base ov ov' xs xs'){B e k n:Nat}{v:Value}{ys:List Value}(hr:w.ownsRow B e k v n ys)(hO:O<B)(hg:∀g y,ov.ownBlock=some g->v.ownBlock=some y->y≠g):w'.ownsRow B e k v n ys:=
 own_block hr fun y hy=>h.old y (hr.lt y hy).2 (by have:=(hr.lt y hy).1;omega) fun e=>hg y y e.symm hy rfl
theorem RepQ.stp (h:RepQ w w' O base ov ov' xs xs'){w0:World}(hs:AnStp O w0 w)(hg:∀g,ov.ownBlock=some g->w0.heap.size<=g):AnStp O w0 w':=
 ⟨h.os.trans hs.os,h.tape.trans hs.tape,h.output.trans hs.output,Nat.le_trans hs.size h.size,fun b hb hne=>(h.old b (Nat.lt_of_lt_of_le hb hs.size) hne fun e=>by have:=hg b e.symm;omega).trans (hs.old b hb hne)⟩
end
theorem repG_len (d:List Fa)(g:List Dn)(f:List Int->Fnd):(repG d g f).length<=1:=by unfold repG;split<;>simp
theorem analyse_any (d:List Fa)(l:List Chg)(v u:Value)(w:World)(hn:l.length<=12)(hl:SlIn ChR 9 w w.heap.size l v)(hd:DomIn w w.heap.size d u)(hsz:∀p∈l,p.cond.size<=1000000)(hT:TabH w.heap.size w):
    Calls Tryz.prog 14 #[v,u] w fun e w'=>∃(a:Option Addr) (c:Nat),e=.returned (.tuple #[.slice a (anaD d l).1.length c,.int .i64 (anaD d l).2])/\ SlIn FnR 5 w' w'.heap.size (anaD d l).1 (.slice a (anaD d l).1.length c)/\ Below w.heap.size w w':=by
  obtain⟨u0,rfl,hd⟩:=hd;obtain⟨ad,cd,rfl,d1,d2,_⟩:=SlIn.shape hd;obtain⟨ap,cp,rfl,p1,p2,_⟩:=SlIn.shape hl;have HBW:Hid (Below w.heap.size w (w.alloc (.cells #[.slice ad d.length cd] 25))):=(Below.refl _ _).alloc (Nat.le_refl _) _;have K0:=Lib.hid (Blk.new w 25 #[.slice ad d.length cd]);have x0:=K0.out.cell 0;have HP:=Lib.hid hl;have HDM:Hid (DomIn w w.heap.size d (.agg #[.slice ad d.length cd])):=⟨_,rfl,hd⟩;have HSZ:=Lib.hid hsz;have HTB:=Lib.hid hT;have HPR:=Lib.hid (rgProper_any d l _ _ (w.alloc (.cells #[.slice ad d.length cd] 25)) w.heap.size (by simp) (hl.below ChR.kept HBW.out) (HDM.out.below HBW.out) hsz);clear hd hl hsz hT;cases g1:properC d l with
  | false=>{rw[g1]at HPR;(have HE:Hid (anaD d l=([],1)):=by show _=_;unfold anaD anaA;rw[if_neg (by rw[g1];decide)]);rw[HE.out];go_enter Tryz.func14,Tryz.ntmps14;go_wp2_with (go_at_call 25;refine HPR.out.mono ?_;rintro e w2 ⟨rfl,hb2⟩;have HB2:=Lib.hid (HBW.out.trans (hb2.mono HBW.out.size));have K2:=Lib.hid (K0.out.below hb2);have z0:=K2.out.cell 0;clear hb2);go_ret2;exact⟨none,0,rfl,⟨none,0,rfl,Nat.le_refl _,Nat.zero_le _,fun h=>absurd rfl h⟩,HB2.out⟩}
  | true=>
    rw[g1]at HPR;have HPC:=Lib.hid (properC_iff.1 g1);have HG:Hid (anaD d l=anaL d l (keysD l) []):=by show _=_;unfold anaD anaA;rw[if_pos g1]
    go_enter Tryz.func14,Tryz.ntmps14;go_upto_region 5 with(go_at_call 25;refine HPR.out.mono ?_;rintro e w2 ⟨rfl,hb2⟩;have HB2:=Lib.hid (HBW.out.trans (hb2.mono HBW.out.size));have K2:=Lib.hid (K0.out.below hb2);have z0:=K2.out.cell 0;clear hb2);obtain⟨A,hA⟩:∃A,w2.heap.size=A:=⟨_,rfl⟩;have hwA:w.heap.size+1<=A:=by have:=K2.out.lt;omega
    have HB3:Hid (Below w.heap.size w ((w2.alloc (.cells #[.slice ad d.length cd,.int .i64 0] 72)).alloc (.cells #[.slice none 0 0] 33))):=(HB2.out.alloc HB2.out.size _).alloc (by have:=HB2.out.size;simp;omega) _;have K3:Hid (Blk ((w2.alloc (.cells #[.slice ad d.length cd,.int .i64 0] 72)).alloc (.cells #[.slice none 0 0] 33)) w.heap.size 25 #[.slice ad d.length cd]):=(K2.out.alloc _).alloc _;have KA:Hid (AnB ((w2.alloc (.cells #[.slice ad d.length cd,.int .i64 0] 72)).alloc (.cells #[.slice none 0 0] 33)) A ad d.length cd 0):=by rw[<-hA];exact(Blk.new w2 _ _).alloc _
    have KO:Hid (Blk ((w2.alloc (.cells #[.slice ad d.length cd,.int .i64 0] 72)).alloc (.cells #[.slice none 0 0] 33)) (A+1) 33 #[.slice none 0 0]):=by{have q:=Blk.new (w2.alloc (.cells #[.slice ad d.length cd,.int .i64 0] 72)) 33 #[.slice none 0 0];rw[World.size_alloc,hA]at q;exact q}
    rw[hA];generalize((w2.alloc (.cells #[.slice ad d.length cd,.int .i64 0] 72)).alloc (.cells #[.slice none 0 0] 33))=w3 at*
    clear x0 z0 K0 K2 HB2 HBW HPR hA;go_upto_region 6 with(go_at_call 27;refine(steps_any l _ w3 w.heap.size (by omega) HB3.out.size (HP.out.below ChR.kept HB3.out)).mono ?_;rintro e w4 ⟨mb,xs,m,rfl,hb4,hx,hok,hst⟩);have hs3:=HB3.out.size;have hO3:A+1<w3.heap.size:=KO.out.lt;have HB4:=Lib.hid (HB3.out.trans (hb4.mono HB3.out.size));have K4:=Lib.hid (K3.out.below hb4);have KA4:=Lib.hid (KA.out.below hb4);have KO4:=Lib.hid (KO.out.below hb4);have HX:=Lib.hid hx;have HOK:=Lib.hid hok;have HST:=Lib.hid hst;have HM5:=Lib.hid (hst.below ((Below.refl _ _).alloc (Nat.le_refl _) (.cells #[.map (some mb)] 54)));have hxl:xs.length=l.length:=by rw[<-hx,List.length_map]
    have HSF:=Lib.hid (sortedKeys_any w4.heap.size mb m (w4.alloc (.cells #[.map (some mb)] 54)) (Blk.new _ _ _) HM5.out.map (by have:=hst.len;omega) hst.nodup (fun k hk=>by
      obtain⟨x,hx1,hx2⟩:=(hst.keys k).1 hk
      have:=(HPC.out.each x.c (by rw[<-HX.out];exact List.mem_map_of_mem hx1)).2.2.1
      rw[<-hx2]
      exact day_iff.1 this))
    have hs4:=hb4.size;clear hb4 hx hok hst hxl
    go_wp2_with (first
      | (go_at_call 29;refine(keys_any mb w4).mono ?_;rintro e w5 ⟨rfl,rfl⟩)
      | (go_at_call 28;refine HSF.out.mono ?_;rintro e w6 ⟨kv,ks,rfl,hp6,hs6,hr6,hb6⟩
         have hbk:Below w4.heap.size w4 w6:=((Below.refl _ _).alloc (Nat.le_refl _) _).trans (hb6.mono (by simp))
         have HB6:=Lib.hid (HB4.out.trans (hbk.mono HB4.out.size))
         have K6:=Lib.hid (K4.out.below hbk)
         have KA6:=Lib.hid (KA4.out.below hbk)
         have KO6:=Lib.hid (KO4.out.below hbk)
         have HST6:=Lib.hid (HST.out.below hbk)
         have HO6:Hid (∀x∈xs,x.Ok w6 w.heap.size):=fun x hx=>(HOK.out x hx).up (hbk.mono HB4.out.size)
         have HKO:=Lib.hid (HST.out.keysOf HX.out hp6 hs6)
         have HR6:=Lib.hid hr6
         have hks:ks.length<=12:=by{have e1:=hp6.length_eq;have e2:=HST.out.len;have e3:=congrArg List.length HX.out;rw[List.length_map]at e1 e3;omega}
         have hs6':=hbk.size
         obtain⟨ka,kc,hkv⟩:=own_len hr6
         subst hkv
         clear hp6 hs6 hr6 hb6 hbk))
    have HG0:Hid (anaD d l=anaL d l ks []):=by show _=_;rw[HG.out, <-keysD_eq HKO.out]
    have HR0:Hid (FnRow w6 w6.heap.size (.slice none 0 0) []):=FnRow.nil _ _;have HS0:Hid (AnStp (A+1) w6 w6):=AnStp.of_below (Below.refl _ _);clear HM5 HSF HB3 HB4 K3 K4 KA KA4 KO KO4 HOK HST HG
    go_loopw [30] (fun iv wr=>∃(k:Nat) (ov:Value) (xf:List FnA),k<=ks.length/\ iv=.int .i64 k/\ Hid (anaD d l=anaL d l (ks.drop k) (xf.map (·.f)))/\ Hid (xf.length<=2*k)/\ Hid (AnStp (A+1) w6 wr)/\ Hid (Blk wr (A+1) 33 #[ov])/\ Hid (FnRow wr w6.heap.size ov xf)/\ Hid (∀x∈xf,x.Ok wr (A+1) ov.ownBlock)) (fun iv _=>ks.length-(intOf iv).toNat)
    case atStart=>exact⟨0,.slice none 0 0,[],Nat.zero_le _,rfl,HG0,Nat.le_refl _,HS0,KO6,HR0,fun x hx=>(by cases hx)⟩
    case round=>
      obtain⟨k,ov,xf,hk,rfl,HI,HLN,HS,HO,HF,HOK⟩:=hrel;clear HR0 HS0 HG0;obtain⟨oa,oc,rfl⟩:=own_len HF.out.own;have hsw:=HS.out.size;by_cases hlt:k<ks.length
      . obtain⟨kg,kcap,hkv,hkg,hkr⟩:=own_key HR6.out hlt
        cases hkv
        have hkl:kg<w6.heap.size:=(HR6.out.lt kg rfl).2;have HKR:=Lib.hid (rng_stp hkr HS.out hkl (by simp at hkg;omega));have hI:=HI.out;rw[List.drop_eq_getElem_cons hlt]at hI;generalize hke:ks[k]=ky at*
        obtain⟨kq,kd⟩:=ky;have HIN:Hid (anaD d l=anaL d l ((kq,kd)::ks.drop (k+1)) (xf.map (·.f))):=hI;have HSTW:=Lib.hid ((HST6.out.stp HS.out (by omega)).below ((Below.refl _ _).alloc (Nat.le_refl _) (.cells #[.string kq,.int .i64 kd] 59)));obtain⟨ra,rc,hrow⟩:=own_len (HSTW.out.row (kq,kd));obtain⟨rn,hrn⟩:∃rn,(stepA xs (kq,kd)).length=rn:=⟨_,rfl⟩;rw[hrn]at hrow
        have hlk:(Instr.lookup 54 (.map (some mb)) (.agg #[.string kq,.int .i64 kd]) false).run Tryz.prog (wr.alloc (.cells #[.string kq,.int .i64 kd] 59))=.ok (.slice ra rn rc) (wr.alloc (.cells #[.string kq,.int .i64 kd] 59)):=by{have h:=run_lookB Tryz.underlying54 zero_row HSTW.out.map (kq,kd);rw[<-hrow];unfold rowOf;cases hm:m.lookup (kq,kd)with| none=>rw[hm]at h;exact h| some x=>rw[hm]at h;exact h}
        clear hI hkr hkg hke;go_upto_region 10 with((with_reducible show wpList _ _ _ (⟨_,Op.load 59 (.tmp 32),_,_,_,_⟩::_) _ _);refine wpList_load_mid rfl 59 (.tmp 32) rfl kg (k*2) (by first | rfl | (simp;done)) [.string kq,.int .i64 kd] _ HKR.out Tryz.underlying59 rfl step_info ?_);have HBA:Hid (Below wr.heap.size wr ((wr.alloc (.cells #[.string kq,.int .i64 kd] 59)).alloc (.cells #[.slice ra rn rc] 22))):=((Below.refl _ _).alloc (Nat.le_refl _) _).alloc (by simp) _;have KK:Hid (Blk ((wr.alloc (.cells #[.string kq,.int .i64 kd] 59)).alloc (.cells #[.slice ra rn rc] 22)) wr.heap.size 59 #[.string kq,.int .i64 kd]):=(Blk.new wr _ _).alloc _
        have KR:Hid (Blk ((wr.alloc (.cells #[.string kq,.int .i64 kd] 59)).alloc (.cells #[.slice ra rn rc] 22)) (wr.heap.size+1) 22 #[.slice ra rn rc]):=by{have q:=Blk.new (wr.alloc (.cells #[.string kq,.int .i64 kd] 59)) 22 #[.slice ra rn rc];rwa[World.size_alloc]at q}
        have HOWN:Hid ((((wr.alloc (.cells #[.string kq,.int .i64 kd] 59)).alloc (.cells #[.slice ra rn rc] 22))).ownsRow (A+1+1) 49 9 (.slice ra rn rc) rn ((stepA xs (kq,kd)).flatMap ChA.cells)):=by{have q:=own_under (HSTW.out.row (kq,kd)) ((Below.refl _ _).alloc (Nat.le_refl _) (.cells #[.slice ra rn rc] 22));rw[hrow,hrn]at q;exact own_base q (by omega)}
        generalize((wr.alloc (.cells #[.string kq,.int .i64 kd] 59)).alloc (.cells #[.slice ra rn rc] 22))=WA at*
        have hKl:wr.heap.size+1<WA.heap.size:=KR.out.lt;have HBWA:Hid (Below w.heap.size w WA):=(HB6.out.trans (HS.out.below HB6.out.size (by omega))).trans (HBA.out.mono (by have:=HB6.out.size;omega));have HAA:Hid (AnB WA A ad d.length cd 0):=(HS.out.blk KA6.out (by omega)).below HBA.out;obtain⟨R,hR⟩:∃R,stepR l (kq,kd)=R:=⟨_,rfl⟩;have HYM:Hid ((stepA xs (kq,kd)).map ChA.c=R):=by show _=_;rw[stepA_map,HX.out,hR]
        have HYO:Hid (∀x∈stepA xs (kq,kd),x.Ok WA w.heap.size):=fun x hx=>((HO6.out x (List.mem_filter.1 hx).1).up (HS.out.below HB6.out.size (by omega))).up (HBA.out.mono (by have:=HB6.out.size;omega))
        have HYS:Hid (∀x∈stepA xs (kq,kd),x.c.cond.size<=1000000):=fun x hx=>HSZ.out x.c (by rw[<-HX.out];exact List.mem_map_of_mem (List.mem_filter.1 hx).1)
        have HYL:Hid (∀y,(Value.slice ra rn rc).ownBlock=some y->y<w6.heap.size):=fun y hy=>by{rw[<-hrow]at hy;exact((HST6.out.row (kq,kd)).lt y hy).2}
        have HRL:Hid (R.length<=60):=by{show _<=_;rw[<-hR];have:=List.length_filter_le (fun x:Chg=>decide (x.key=(kq,kd))) l;unfold stepR;omega}
        have HIR:Hid (anaD d l=if(bothX d R).2=0 then anaL d l (ks.drop (k+1)) (xf.map (·.f)++findK d (kq,kd) R)else([],(bothX d R).2)):=by{show _=_;rw[HIN.out,anaL,hR]}
        generalize stepA xs (kq,kd)=ys at*
        clear HIN hR HSTW hrow hlk HKR HI;have HTW:Hid (∀W',Below w.heap.size w W'->DomIn W' W'.heap.size d (.agg #[.slice ad d.length cd])/\ TabH W'.heap.size W'):=fun W' hb=>⟨(HDM.out.below hb).mono hb.size,fun w'' h=>HTB.out w'' (hb.trans (h.mono hb.size))⟩
        have HNN:Hid (∀(W:World) (e:Int),AnE A ad d.length cd e WA W->∀(g:Nat) (K:Chg->Bool),(∀args w,(callFunc g args).run Tryz.prog w=.ok (.enter g args) w)->(∀(x:Chg) (ak:Option Addr) (ck:Nat) (W:World),Calls Tryz.prog g #[.agg (chC x ak ck).toArray] W fun e W'=>e=.returned (.bool (K x))/\ Below W.heap.size W W')->
            Calls Tryz.prog 38 #[.pointer (some ⟨A,0,none⟩),.slice ra rn rc,.func (.func g) #[] #[]] W fun r w'=>∃(a:Option Addr) (n c:Nat),r=.returned (.agg #[.slice a n c])/\ Hid (AnQ d A ad cd (noneX d e ((R.filter K).map (·.cond))) W w' (.agg #[.slice a n c]))):=by
          intro W e hE g K eg hK;have hb1:=hE.step.below (B:=w.heap.size) HBWA.out.size (by omega);have hb:=HBWA.out.trans hb1;subst hrn;have q:=none_any (d:=d) (xs:=ys) (K:=K) (va:=ra) (vc:=rc) (w:=W) (B:=w.heap.size) (A:=A) (ad:=ad) (cd:=cd) (e:=e) g eg hK hE.box (by omega) (HDM.out.below hb) (fun w'' h=>HTB.out w'' (hb.trans h)) (own_base (own_stp HOWN.out hE.step (by omega)) (by omega)) (fun x hx=>(HYO.out x hx).up hb1) HYS.out;rw[HYM.out]at q;exact q
        have hE0:AnE A ad d.length cd 0 WA WA:=⟨AnStp.of_below (Below.refl _ _),fun _=>Below.refl _ _,HAA.out⟩;have r0:=KR.out.cell 0;go_upto_region 11 with(go_at_call 38;refine(HNN.out _ _ hE0 _ (fun _=>true) (enters_of Tryz.func39 (by kernel_rfl) rfl) ana1_any).mono ?_;rintro e w10 ⟨a1,n1,c1,rfl,HQ1⟩);obtain⟨hE1,hG1⟩:=gvar_new HQ1.out;rw[gap_eq]at hE1 hG1;obtain⟨G1,hG1e⟩:∃G1,w10.heap.size=G1:=⟨_,rfl⟩;have hg1A:WA.heap.size<=G1:=by rw[<-hG1e];exact HQ1.out.step.size
        rw[hG1e]at hG1⊢;generalize w10.alloc (.cells #[.slice a1 n1 c1] 75)=WB at*
        have HE1:=Lib.hid hE1;have HG1:=Lib.hid hG1;have KR1:=Lib.hid (hE1.step.blk KR.out (by omega));clear r0 HQ1 hE1 hG1 hG1e hE0;have r1:=KR1.out.cell 0;go_upto_region 12 with(go_at_call 38;refine(HNN.out _ _ HE1.out _ (·.keep) (enters_of Tryz.func40 (by kernel_rfl) rfl) ana2_any).mono ?_;rintro e w10 ⟨a2,n2,c2,rfl,HQ1⟩);obtain⟨hE2,hG2⟩:=gvar_new HQ1.out;have hE2:AnE A ad d.length cd (stayX d R).2 WB _:=hE2;have hG2:GVar _ _ (stayX d R).2 (stayX d R).1 a2 n2 c2:=hG2;obtain⟨G2,hG2e⟩:∃G2,w10.heap.size=G2:=⟨_,rfl⟩;have hg2A:WA.heap.size<=G2:=by rw[<-hG2e];exact Nat.le_trans HE1.out.step.size HQ1.out.step.size
        rw[hG2e]at hG2⊢;generalize w10.alloc (.cells #[.slice a2 n2 c2] 75)=WC at*
        have HE2:=Lib.hid (HE1.out.trans hE2 fun h=>noneX_zero h);have HG2:=Lib.hid hG2;have HG1C:=Lib.hid (HG1.out.step HE1.out.box hE2 (fun h=>noneX_zero h) (by omega));have KR2:=Lib.hid (hE2.step.blk KR1.out (by omega));clear r1 HQ1 hE2 hG2 hG2e HG1 KR1 HE1;have r2:=KR2.out.cell 0;go_upto_region 13 with(go_at_call 38;refine(HNN.out _ _ HE2.out _ (fun x=> !x.keep) (enters_of Tryz.func41 (by kernel_rfl) rfl) ana3_any).mono ?_;rintro e w10 ⟨a3,n3,c3,rfl,HQ1⟩);obtain⟨hE3,hG3⟩:=gvar_new HQ1.out;have hE3:AnE A ad d.length cd (leaveX d R).2 WC _:=hE3;have hG3:GVar _ _ (leaveX d R).2 (leaveX d R).1 a3 n3 c3:=hG3;obtain⟨G3,hG3e⟩:∃G3,w10.heap.size=G3:=⟨_,rfl⟩;have hg3A:WA.heap.size<=G3:=by rw[<-hG3e];exact Nat.le_trans HE2.out.step.size HQ1.out.step.size
        rw[hG3e]at hG3⊢;generalize w10.alloc (.cells #[.slice a3 n3 c3] 75)=WD at*
        have HE3:=Lib.hid (HE2.out.trans hE3 fun h=>noneX_zero h);have HG3:=Lib.hid hG3;have HG2D:=Lib.hid (HG2.out.step HE2.out.box hE3 (fun h=>noneX_zero h) (by omega));have HG1D:=Lib.hid (HG1C.out.step HE2.out.box hE3 (fun h=>noneX_zero h) (by omega));have KR3:=Lib.hid (hE3.step.blk KR2.out (by omega));clear r2 HQ1 hE3 hG3 hG3e HG1C HG2 KR2 HE2 HNN;have hAD:A<WD.heap.size:=HE3.out.box.lt;have HNS:Hid (∀W',Hid (Below WD.heap.size WD W')->Calls Tryz.prog 43 #[.agg #[.slice a2 n2 c2]] W' fun r w'=>∃(t2:List Dn) (a':Option Addr) (k':Nat),r=.returned (.agg #[.slice a' (notD t2).length k'])/\ Hid (NtR w' (leaveX d R).2 (stayX d R).1 t2 a' k')/\ Hid (Below W'.heap.size W' w')/\ Hid (Below WD.heap.size WD w')/\ WD.heap.size<=w'.heap.size):=fun W' hb=>gvar_not HG2D (fun h=>noneX_len (noneX_zero h)) hb
        have HNL:Hid (∀W',Hid (Below WD.heap.size WD W')->Calls Tryz.prog 43 #[.agg #[.slice a3 n3 c3]] W' fun r w'=>∃(t2:List Dn) (a':Option Addr) (k':Nat),r=.returned (.agg #[.slice a' (notD t2).length k'])/\ Hid (NtR w' (leaveX d R).2 (leaveX d R).1 t2 a' k')/\ Hid (Below W'.heap.size W' w')/\ Hid (Below WD.heap.size WD w')/\ WD.heap.size<=w'.heap.size):=fun W' hb=>gvar_not HG3 (fun h=>noneX_len h) hb
        have HAN:Hid (∀(w8 w9 W':World) (t8:List Dn) (a8:Option Addr) (k8:Nat) (t9:List Dn) (a9:Option Addr) (k9:Nat),Hid (NtR w8 (leaveX d R).2 (stayX d R).1 t8 a8 k8)->Hid (Below w8.heap.size w8 W')->Hid (NtR w9 (leaveX d R).2 (leaveX d R).1 t9 a9 k9)->Hid (Below w9.heap.size w9 W')->Hid (Below WD.heap.size WD W')->
            Calls Tryz.prog 42 #[.pointer (some ⟨A,0,none⟩),.agg #[.slice a8 (notD t8).length k8],.agg #[.slice a9 (notD t9).length k9]] W' fun r w''=>∃(a:Option Addr) (n c:Nat),r=.returned (.agg #[.slice a n c])/\ Hid (AnQ d A ad cd (bothX d R) WD w'' (.agg #[.slice a n c]))/\ Hid (AnStp A W' w'')):=by
          intro w8 w9 W' t8 a8 k8 t9 a9 k9 h8 hb8 h9 hb9 hb;have hbw:Below w.heap.size w W':=(HBWA.out.trans (HE3.out.step.below HBWA.out.size (by omega))).trans (hb.out.mono (Nat.le_trans HBWA.out.size HE3.out.step.size));obtain⟨hd1,ht1⟩:=HTW.out W' hbw;have d8:=(h8.out.dg.below hb8.out).mono hb8.out.size;have d9:=(h9.out.dg.below hb9.out).mono hb9.out.size;refine(anAnd_any (tx:=notD (stayX d R).1) (ty:=notD (leaveX d R).1) (HE3.out.box.below hb.out) hd1 (fun hz=>?_) ⟨notD t8,by rw[notD_len];exact h8.out.len,d8⟩ ⟨notD t9,by rw[notD_len];exact h9.out.len,d9⟩ ht1).mono ?_
          . have e8:=h8.out.eq hz
            have e9:=h9.out.eq hz;subst e8 e9;exact⟨d8,d9,valid_64 (not_valid (noneX_ok (noneX_zero hz)).2.1).1,valid_64 (not_valid (noneX_ok hz).2.1).1⟩
          . rintro e w'' ⟨a,n,c,rfl,q⟩
            have eb:(if(leaveX d R).2=0 then andX d (notD (stayX d R).1) (notD (leaveX d R).1)else(notD (stayX d R).1,(leaveX d R).2))=bothX d R:=rfl;rw[eb]at q;exact⟨a,n,c,rfl,⟨(AnStp.of_below hb.out).trans q.step,fun hz=>hb.out.trans ((q.same hz).mono hb.out.size),q.box,q.dg,q.any⟩,q.step⟩
        have HKP:Hid (∀w',AnStp A WD w'->w'.cell? ⟨G2,0,none⟩=some (.slice a2 n2 c2)/\ w'.cell? ⟨G3,0,none⟩=some (.slice a3 n3 c3)):=fun w' hs=>⟨(hs.blk HG2D.out.box (by omega)).cell 0,(hs.blk HG3.out.box (by omega)).cell 0⟩
        have HZB:Hid ((bothX d R).2=0->(leaveX d R).2=0/\ ValidG d (gapX d R).1/\ ValidG d (bothX d R).1):=fun hz=>⟨(by unfold bothX at hz;split at hz;assumption;exact hz),(ana_ok hz).gap,(ana_ok hz).both⟩
        have HFK:Hid (∀out,out++repG d (gapX d R).1 (fun c=>⟨1,kq,kd,c,R.map (·.id)⟩)++repG d (bothX d R).1 (fun c=>⟨2,kq,kd,c,(holdR d c R).map (·.id)⟩)=out++findK d (kq,kd) R):=fun out=>by rw[List.append_assoc];rfl
        generalize bothX d R=RB at*
        obtain⟨TB,eB⟩:=RB;generalize(gapX d R).1=TG at*
        generalize stayX d R=RS at*
        generalize leaveX d R=RL at*
        go_cut[15] (fun s15 wx=>∃(X:Nat) (a n c:_),s15=.pointer (some ⟨X,0,none⟩)/\ Hid (AnE A ad d.length cd eB WD wx)/\ Hid (GVar wx X eB TB a n c)/\ Hid (WD.heap.size<=X))
        case first=>
          refine wp_region_held_drew (S:=(fun w':World=>Hid (AnStp A WD w'))) (by kernel_rfl) (Lib.hid (AnStp.of_below (Below.refl WD.heap.size WD).drew)) (fun hHeld=>?_);refine tp 0 ?_;refine tk 1 ?v1 ?y1 ?_
          case y1=>(intro w9 hSw;obtain⟨y0,y1⟩:=HKP.out w9 hSw.out;go_simp;try with_reducible rfl)
          refine tk 3 ?v3 ?y3 ?_
          case y3=>(intro w9 hSw;obtain⟨y0,y1⟩:=HKP.out w9 hSw.out;go_simp;try with_reducible rfl)
          refine tt 2 6 (fun K hK=>?_) (fun K hK=>?_)
          . skip
            (go_simp;go_at_call_of 43 a2;refine(HNS.out _ (by first | assumption | exact Lib.hid ((Below.refl _ _).drew) | exact hidD_alloc _ _ | exact hidB_alloc (by assumption) _)).mono ?_;rintro e w8 ⟨t8,a8,k8,rfl,HN8,HB8,HC8,hs8⟩;have HT8:=Lib.hid (AnStp.of_below (A:=A) HC8.out))
            refine hK.out _ _ ?_ (fun hHeld=>?_)
            . exact HT8
            clear hK K
            try simp only[Act.put,sA,sB,sC]
            refine tt 4 6 (fun K hK=>?_) (fun K hK=>?_)
            . skip
              (go_simp;go_at_call_of 43 a3;refine(HNL.out _ (by first | assumption | exact Lib.hid ((Below.refl _ _).drew) | exact hidD_alloc _ _ | exact hidB_alloc (by assumption) _)).mono ?_;rintro e w9 ⟨t9,a9,k9,rfl,HN9,HB9,HC9,hs9⟩;have HT9:=Lib.hid (AnStp.of_below (A:=A) HC9.out))
              refine hK.out _ _ ?_ (fun hHeld=>?_)
              . exact HT9
              clear hK K
              try simp only[Act.put,sA,sB,sC]
              refine tt 5 6 (fun K hK=>?_) (fun K hK=>?_)
              . skip
                (go_simp;go_at_call 42;refine(HAN.out _ _ _ t8 a8 k8 t9 a9 k9 HN8 (by first | exact Lib.hid HB9.out | exact Lib.hid (((Below.refl _ _).alloc (Nat.le_refl _) _).trans (HB9.out.mono (by simp))) | exact Lib.hid (HB9.out.alloc HB9.out.size _)) HN9 (by first | exact Lib.hid (Below.refl _ _) | exact Lib.hid ((Below.refl _ _).alloc (Nat.le_refl _) _)) (by first | assumption | exact Lib.hid ((Below.refl _ _).drew) | exact hidD_alloc _ _ | exact hidB_alloc (by assumption) _)).mono ?_;rintro e w10 ⟨a10,n10,c10,rfl,HQ10,HS10⟩;have HT10:=Lib.hid HQ10.out.step)
                refine hK.out _ _ ?_ (fun hHeld=>?_)
                . exact HT10
                clear hK K
                try simp only[Act.put,sA,sB,sC]
                refine tr 6 (fun K hK=>?_)
                go_simp
                refine hK.out _ _ ?_ (fun hHeld=>?_)
                . first | exact Lib.hid (anstp_alloc HT10.out _) | exact Lib.hid (anstp_alloc HT9.out _) | exact Lib.hid (anstp_alloc HT8.out _) | exact Lib.hid (anstp_alloc (AnStp.of_below (Below.refl WD.heap.size WD).drew) _)
                clear hK K
                try simp only[Act.put,sA,sB,sC]
                refine tr 7 (fun K hK=>?_)
                (first | (have HZ:=Lib.hid (HS10.out.blk (Blk.new _ 75 #[.slice none 0 0]) (by first | omega | (show WD.heap.size≠A;omega)));have cz:=HZ.out.cell 0;have fz:=HZ.out.frozen 0;go_simp) | (have HZ:=Lib.hid (HS10.out.blk ((Blk.new _ 75 #[.slice none 0 0]).below HB9.out) (by first | omega | (show WD.heap.size≠A;omega)));have cz:=HZ.out.cell 0;have fz:=HZ.out.frozen 0;go_simp) | (have HZ:Hid (Blk w10 WD.heap.size 75 #[.slice none 0 0]):=Lib.hid (HS10.out.blk (((Blk.new WD.drew 75 #[.slice none 0 0]).below HB8.out).below HB9.out) (by first | omega | (show WD.heap.size≠A;omega)));have cz:=HZ.out.cell 0;have fz:=HZ.out.frozen 0;go_simp) | go_simp)
                refine hK.out _ _ ?_ (fun hHeld=>?_)
                . first | exact Lib.hid (anstp_set HT10.out (by first | exact hs9 | exact hs8 | exact Nat.le_refl _) _) | exact Lib.hid (anstp_alloc HT10.out _)
                clear hK K
                try simp only[Act.put,sA,sB,sC]
                refine wpAnyH_done (by kernel_rfl) ?_ _
                (go_wp2;go_meet;first | exact⟨_,_,_,_,rfl,bothN_set HQ10 HZ (by first | exact hs9 | exact hs8 | exact Nat.le_refl _) (by first | omega | (show WD.heap.size≠A;omega))⟩ | exact⟨_,_,_,_,rfl,bothN_new HQ10⟩)
              . skip
                go_simp
                refine hK.out _ _ ?_ (fun hHeld=>?_)
                . first | exact Lib.hid (anstp_alloc HT10.out _) | exact Lib.hid (anstp_alloc HT9.out _) | exact Lib.hid (anstp_alloc HT8.out _) | exact Lib.hid (anstp_alloc (AnStp.of_below (Below.refl WD.heap.size WD).drew) _)
                clear hK K
                try simp only[Act.put,sA,sB,sC]
                refine tr 5 (fun K hK=>?_)
                (go_simp;go_at_call 42;refine(HAN.out _ _ _ t8 a8 k8 t9 a9 k9 HN8 (by first | exact Lib.hid HB9.out | exact Lib.hid (((Below.refl _ _).alloc (Nat.le_refl _) _).trans (HB9.out.mono (by simp))) | exact Lib.hid (HB9.out.alloc HB9.out.size _)) HN9 (by first | exact Lib.hid (Below.refl _ _) | exact Lib.hid ((Below.refl _ _).alloc (Nat.le_refl _) _)) (by first | assumption | exact Lib.hid ((Below.refl _ _).drew) | exact hidD_alloc _ _ | exact hidB_alloc (by assumption) _)).mono ?_;rintro e w10 ⟨a10,n10,c10,rfl,HQ10,HS10⟩;have HT10:=Lib.hid HQ10.out.step)
                refine hK.out _ _ ?_ (fun hHeld=>?_)
                . exact HT10
                clear hK K
                try simp only[Act.put,sA,sB,sC]
                refine tr 7 (fun K hK=>?_)
                (first | (have HZ:=Lib.hid (HS10.out.blk (Blk.new _ 75 #[.slice none 0 0]) (by first | omega | (show WD.heap.size≠A;omega)));have cz:=HZ.out.cell 0;have fz:=HZ.out.frozen 0;go_simp) | (have HZ:=Lib.hid (HS10.out.blk ((Blk.new _ 75 #[.slice none 0 0]).below HB9.out) (by first | omega | (show WD.heap.size≠A;omega)));have cz:=HZ.out.cell 0;have fz:=HZ.out.frozen 0;go_simp) | (have HZ:Hid (Blk w10 WD.heap.size 75 #[.slice none 0 0]):=Lib.hid (HS10.out.blk (((Blk.new WD.drew 75 #[.slice none 0 0]).below HB8.out).below HB9.out) (by first | omega | (show WD.heap.size≠A;omega)));have cz:=HZ.out.cell 0;have fz:=HZ.out.frozen 0;go_simp) | go_simp)
                refine hK.out _ _ ?_ (fun hHeld=>?_)
                . first | exact Lib.hid (anstp_set HT10.out (by first | exact hs9 | exact hs8 | exact Nat.le_refl _) _) | exact Lib.hid (anstp_alloc HT10.out _)
                clear hK K
                try simp only[Act.put,sA,sB,sC]
                refine wpAnyH_done (by kernel_rfl) ?_ _
                (go_wp2;go_meet;first | exact⟨_,_,_,_,rfl,bothN_set HQ10 HZ (by first | exact hs9 | exact hs8 | exact Nat.le_refl _) (by first | omega | (show WD.heap.size≠A;omega))⟩ | exact⟨_,_,_,_,rfl,bothN_new HQ10⟩)
            . skip
              go_simp
              refine hK.out _ _ ?_ (fun hHeld=>?_)
              . first | exact Lib.hid (anstp_alloc HT10.out _) | exact Lib.hid (anstp_alloc HT9.out _) | exact Lib.hid (anstp_alloc HT8.out _) | exact Lib.hid (anstp_alloc (AnStp.of_below (Below.refl WD.heap.size WD).drew) _)
              clear hK K
              try simp only[Act.put,sA,sB,sC]
              refine tr 4 (fun K hK=>?_)
              (go_simp;go_at_call_of 43 a3;refine(HNL.out _ (by first | assumption | exact Lib.hid ((Below.refl _ _).drew) | exact hidD_alloc _ _ | exact hidB_alloc (by assumption) _)).mono ?_;rintro e w9 ⟨t9,a9,k9,rfl,HN9,HB9,HC9,hs9⟩;have HT9:=Lib.hid (AnStp.of_below (A:=A) HC9.out))
              refine hK.out _ _ ?_ (fun hHeld=>?_)
              . exact HT9
              clear hK K
              try simp only[Act.put,sA,sB,sC]
              refine tr 5 (fun K hK=>?_)
              (go_simp;go_at_call 42;refine(HAN.out _ _ _ t8 a8 k8 t9 a9 k9 HN8 (by first | exact Lib.hid HB9.out | exact Lib.hid (((Below.refl _ _).alloc (Nat.le_refl _) _).trans (HB9.out.mono (by simp))) | exact Lib.hid (HB9.out.alloc HB9.out.size _)) HN9 (by first | exact Lib.hid (Below.refl _ _) | exact Lib.hid ((Below.refl _ _).alloc (Nat.le_refl _) _)) (by first | assumption | exact Lib.hid ((Below.refl _ _).drew) | exact hidD_alloc _ _ | exact hidB_alloc (by assumption) _)).mono ?_;rintro e w10 ⟨a10,n10,c10,rfl,HQ10,HS10⟩;have HT10:=Lib.hid HQ10.out.step)
              refine hK.out _ _ ?_ (fun hHeld=>?_)
              . exact HT10
              clear hK K
              try simp only[Act.put,sA,sB,sC]
              refine tr 7 (fun K hK=>?_)
              (first | (have HZ:=Lib.hid (HS10.out.blk (Blk.new _ 75 #[.slice none 0 0]) (by first | omega | (show WD.heap.size≠A;omega)));have cz:=HZ.out.cell 0;have fz:=HZ.out.frozen 0;go_simp) | (have HZ:=Lib.hid (HS10.out.blk ((Blk.new _ 75 #[.slice none 0 0]).below HB9.out) (by first | omega | (show WD.heap.size≠A;omega)));have cz:=HZ.out.cell 0;have fz:=HZ.out.frozen 0;go_simp) | (have HZ:Hid (Blk w10 WD.heap.size 75 #[.slice none 0 0]):=Lib.hid (HS10.out.blk (((Blk.new WD.drew 75 #[.slice none 0 0]).below HB8.out).below HB9.out) (by first | omega | (show WD.heap.size≠A;omega)));have cz:=HZ.out.cell 0;have fz:=HZ.out.frozen 0;go_simp) | go_simp)
              refine hK.out _ _ ?_ (fun hHeld=>?_)
              . first | exact Lib.hid (anstp_set HT10.out (by first | exact hs9 | exact hs8 | exact Nat.le_refl _) _) | exact Lib.hid (anstp_alloc HT10.out _)
              clear hK K
              try simp only[Act.put,sA,sB,sC]
              refine wpAnyH_done (by kernel_rfl) ?_ _
              (go_wp2;go_meet;first | exact⟨_,_,_,_,rfl,bothN_set HQ10 HZ (by first | exact hs9 | exact hs8 | exact Nat.le_refl _) (by first | omega | (show WD.heap.size≠A;omega))⟩ | exact⟨_,_,_,_,rfl,bothN_new HQ10⟩)
          . skip
            go_simp
            refine hK.out _ _ ?_ (fun hHeld=>?_)
            . first | exact Lib.hid (anstp_alloc HT10.out _) | exact Lib.hid (anstp_alloc HT9.out _) | exact Lib.hid (anstp_alloc HT8.out _) | exact Lib.hid (anstp_alloc (AnStp.of_below (Below.refl WD.heap.size WD).drew) _)
            clear hK K
            try simp only[Act.put,sA,sB,sC]
            refine tr 2 (fun K hK=>?_)
            (go_simp;go_at_call_of 43 a2;refine(HNS.out _ (by first | assumption | exact Lib.hid ((Below.refl _ _).drew) | exact hidD_alloc _ _ | exact hidB_alloc (by assumption) _)).mono ?_;rintro e w8 ⟨t8,a8,k8,rfl,HN8,HB8,HC8,hs8⟩;have HT8:=Lib.hid (AnStp.of_below (A:=A) HC8.out))
            refine hK.out _ _ ?_ (fun hHeld=>?_)
            . exact HT8
            clear hK K
            try simp only[Act.put,sA,sB,sC]
            refine tr 4 (fun K hK=>?_)
            (go_simp;go_at_call_of 43 a3;refine(HNL.out _ (by first | assumption | exact Lib.hid ((Below.refl _ _).drew) | exact hidD_alloc _ _ | exact hidB_alloc (by assumption) _)).mono ?_;rintro e w9 ⟨t9,a9,k9,rfl,HN9,HB9,HC9,hs9⟩;have HT9:=Lib.hid (AnStp.of_below (A:=A) HC9.out))
            refine hK.out _ _ ?_ (fun hHeld=>?_)
            . exact HT9
            clear hK K
            try simp only[Act.put,sA,sB,sC]
            refine tr 5 (fun K hK=>?_)
            (go_simp;go_at_call 42;refine(HAN.out _ _ _ t8 a8 k8 t9 a9 k9 HN8 (by first | exact Lib.hid HB9.out | exact Lib.hid (((Below.refl _ _).alloc (Nat.le_refl _) _).trans (HB9.out.mono (by simp))) | exact Lib.hid (HB9.out.alloc HB9.out.size _)) HN9 (by first | exact Lib.hid (Below.refl _ _) | exact Lib.hid ((Below.refl _ _).alloc (Nat.le_refl _) _)) (by first | assumption | exact Lib.hid ((Below.refl _ _).drew) | exact hidD_alloc _ _ | exact hidB_alloc (by assumption) _)).mono ?_;rintro e w10 ⟨a10,n10,c10,rfl,HQ10,HS10⟩;have HT10:=Lib.hid HQ10.out.step)
            refine hK.out _ _ ?_ (fun hHeld=>?_)
            . exact HT10
            clear hK K
            try simp only[Act.put,sA,sB,sC]
            refine tr 7 (fun K hK=>?_)
            (first | (have HZ:=Lib.hid (HS10.out.blk (Blk.new _ 75 #[.slice none 0 0]) (by first | omega | (show WD.heap.size≠A;omega)));have cz:=HZ.out.cell 0;have fz:=HZ.out.frozen 0;go_simp) | (have HZ:=Lib.hid (HS10.out.blk ((Blk.new _ 75 #[.slice none 0 0]).below HB9.out) (by first | omega | (show WD.heap.size≠A;omega)));have cz:=HZ.out.cell 0;have fz:=HZ.out.frozen 0;go_simp) | (have HZ:Hid (Blk w10 WD.heap.size 75 #[.slice none 0 0]):=Lib.hid (HS10.out.blk (((Blk.new WD.drew 75 #[.slice none 0 0]).below HB8.out).below HB9.out) (by first | omega | (show WD.heap.size≠A;omega)));have cz:=HZ.out.cell 0;have fz:=HZ.out.frozen 0;go_simp) | go_simp)
            refine hK.out _ _ ?_ (fun hHeld=>?_)
            . first | exact Lib.hid (anstp_set HT10.out (by first | exact hs9 | exact hs8 | exact Nat.le_refl _) _) | exact Lib.hid (anstp_alloc HT10.out _)
            clear hK K
            try simp only[Act.put,sA,sB,sC]
            refine wpAnyH_done (by kernel_rfl) ?_ _
            (go_wp2;go_meet;first | exact⟨_,_,_,_,rfl,bothN_set HQ10 HZ (by first | exact hs9 | exact hs8 | exact Nat.le_refl _) (by first | omega | (show WD.heap.size≠A;omega))⟩ | exact⟨_,_,_,_,rfl,bothN_new HQ10⟩)
        case rest=>
          obtain⟨X,a4,n4,c4,rfl,HEB,HGB,HXW⟩:=hcut;rename World=>wx
          clear HKP HAN HNL HNS;have HEW:Hid (AnE A ad d.length cd eB WA wx):=HE3.out.trans HEB.out fun h=>(HZB.out h).1
          have y1:=HEB.out.box.cell 1;by_cases he:eB=0
          . subst he
            obtain⟨hz1,hana⟩:=HZB.out rfl;have HAO:=Lib.hid hana;have HAX:=Lib.hid (HEW.out.same rfl);have HBX:Hid (Below wr.heap.size wr wx):=HBA.out.trans (HAX.out.mono HBA.out.size);have HWX:Hid (Below w.heap.size w wx):=HBWA.out.trans (HAX.out.mono HBWA.out.size);have HGX:=Lib.hid (HG1D.out.step HE3.out.box HEB.out (fun _=>hz1) (by omega));have KRX:=Lib.hid (HEB.out.step.blk KR3.out (by omega));have KKX:=Lib.hid (KK.out.below HAX.out);have HOX:=Lib.hid (HO.out.below HBX.out);have HFX:=Lib.hid (HF.out.below HBX.out);have HOKX:Hid (∀x∈xf,x.Ok wx (A+1) (Value.slice oa xf.length oc).ownBlock):=fun x hx=>(HOK.out x hx).below HBX.out
            have HDX:=Lib.hid (((HS.out.blk K6.out (by omega)).below HBX.out));have HOWX:=Lib.hid (own_under HOWN.out HAX.out);have HYX:Hid (∀x∈ys,x.Ok wx w.heap.size):=fun x hx=>(HYO.out x hx).up (HAX.out.mono HBWA.out.size)
            obtain⟨hdx,htx⟩:=HTW.out wx HWX.out;have hg6:∀g,(Value.slice oa xf.length oc).ownBlock=some g->w6.heap.size<=g/\ g<wr.heap.size:=fun g hg=>HF.out.own.lt g hg
            have hsx:=HBX.out.size;have hkx:wr.heap.size+1<wx.heap.size:=by have:=HAX.out.size;omega
            have HR1:=Lib.hid (report_any (kind:=1) (t:=TG) (kq:=kq) (kd:=kd) (w:=wx) (base:=w6.heap.size) (O:=A+1) (KB:=wr.heap.size) (D:=w.heap.size) 47 #[.pointer (some ⟨wr.heap.size+1,0,none⟩)] (fun _=>R) (enters_of Tryz.func47 (by kernel_rfl) rfl)
              (HGX.out.dg rfl) HAO.out.1 hdx HDX.out HOX.out KKX.out (by omega) (by omega) (by omega) HFX.out (fun g hg=>by have:=(hg6 g hg).2;omega) HOKX.out (by have:=HLN.out;omega) htx (fun _=>HRL.out) (fun W' c cv hb _=>by
                refine(ana5_any cv (.slice ra rn rc) (wr.heap.size+1) W' rfl ((KRX.out.below hb).cell 0)).mono ?_
                rintro e W'' ⟨rfl,rfl⟩
                refine⟨_,rfl,Below.refl _ _,?_⟩
                have q:=own_chs (xs:=ys) (by rw[hrn];exact own_under HOWX.out hb) (Nat.le_refl _) fun x hx=>((HYX.out x hx).up (hb.mono HWX.out.size)).mono (Nat.le_trans HWX.out.size hb.size)
                rw[HYM.out]at q
                exact q))
            have g0:=HGX.out.box.cell 0;have b0:=HGB.out.box.cell 0;clear hdx htx HDM HTB;go_upto_region 18 with(go_at_call 44;refine HR1.out.mono ?_;rintro e wy ⟨rfl,ov1,xf1,hm1,HQ1⟩);have HM1:=Lib.hid hm1;have HQH:=Lib.hid HQ1;obtain⟨oa1,oc1,hov1⟩:=own_len HQ1.row.own;subst hov1;have HXY:=Lib.hid (HQ1.below (B:=w.heap.size) HWX.out.size (by omega) (fun g hg=>by have:=(hg6 g hg).1;have:=HB6.out.size;omega));have HWY:Hid (Below w.heap.size w wy):=HWX.out.trans HXY.out;have hg7:∀g,(Value.slice oa1 xf1.length oc1).ownBlock=some g->w6.heap.size<=g:=fun g hg=>(HQ1.row.own.lt g hg).1
            have KRY:=Lib.hid (HQ1.blk KRX.out (by omega) (fun g hg=>by have:=(hg6 g hg).2;omega));have KKY:=Lib.hid (HQ1.blk KKX.out (by omega) (fun g hg=>by have:=(hg6 g hg).2;omega));have HDY:=Lib.hid (HQ1.blk HDX.out (by omega) (fun g hg=>by have:=(hg6 g hg).1;have:=HB6.out.size;have:=K6.out.lt;omega));have HBY:=Lib.hid (HQ1.blk HGB.out.box (by have:=HXW.out;have:=HE3.out.step.size;omega) (fun g hg=>by have:=(hg6 g hg).2;have:=HXW.out;have:=HE3.out.step.size;omega));have HOWY:=Lib.hid (HQ1.own HOWX.out (by omega) (fun g y hg hy=>by have:=(hg6 g hg).1;have:=HYL.out y hy;omega));have HYY:Hid (∀x∈ys,x.Ok wy w.heap.size):=fun x hx=>(HYX.out x hx).up HXY.out
            have HDG:=Lib.hid (HQ1.dg _ _ (HGB.out.dg rfl) (valid_cuts HAO.out.2));obtain⟨hdy,hty⟩:=HTW.out wy HWY.out
            have hln1:xf1.length<=2*k+1:=by{have q:=congrArg List.length hm1;rw[List.length_append,List.length_map,List.length_map]at q;have:=repG_len d TG (fun c=>⟨1,kq,kd,c,R.map (·.id)⟩);have:=HLN.out;omega}
            have hsy:=HQ1.size
            have hKg1:∀g,(Value.slice oa1 xf1.length oc1).ownBlock=some g->g≠wr.heap.size:=fun g hg=>by
              rcases HQ1.at_ with e | e
              . rw[e]at hg;have:=(hg6 g hg).2;omega
              . have:=e g hg;omega
            have HR2:=Lib.hid (report_any (kind:=2) (t:=TB) (kq:=kq) (kd:=kd) (w:=wy) (base:=w6.heap.size) (O:=A+1) (KB:=wr.heap.size) (D:=w.heap.size) 48 #[.pointer (some ⟨wr.heap.size+1,0,none⟩),.pointer (some ⟨w.heap.size,0,none⟩)] (fun c=>holdR d c R) (enters_of Tryz.func48 (by kernel_rfl) rfl)
              HDG.out HAO.out.2 hdy HDY.out HQ1.box KKY.out (by omega) (by omega) (by omega) HQ1.row hKg1 HQ1.ok (by omega) hty (fun c=>Nat.le_trans (List.length_filter_le _ _) HRL.out) (fun W' c cv hb hc=>by
                have q:=own_chs (xs:=ys) (by rw[hrn];exact own_under HOWY.out hb) (Nat.le_refl _) fun x hx=>((HYY.out x hx).up (hb.mono HWY.out.size)).mono (Nat.le_trans HWY.out.size hb.size)
                rw[HYM.out]at q
                obtain⟨hd3,_⟩:=HTW.out W' (HWY.out.trans (hb.mono HWY.out.size))
                exact ana6_any cv (wr.heap.size+1) w.heap.size W' ((KRY.out.below hb).cell 0) ((HDY.out.below hb).cell 0) (fun W'' hw=>by
                  have hb2:Below W'.heap.size W' W'':=by rcases hw with rfl | rfl;exact Below.refl _ _;exact(Below.refl _ _).drew
                  have hs2:W'.heap.size=W''.heap.size:=by rcases hw with rfl | rfl<;>rfl
                  refine(holding_any d R c _ _ cv W'' W''.heap.size HRL.out (Nat.le_refl _) (SlIn.mono ChR.mono hb2.size (q.below ChR.kept hb2)) ((hd3.below hb2).mono hb2.size) (SlIn.mono (OneR.mono _) hb2.size (SlIn.below (OneR.kept _) hb2 hc)) (fun p hp=>by
                    rw[<-HYM.out]at hp
                    obtain⟨x,hx,rfl⟩:=List.mem_map.1 hp
                    exact HYS.out x hx)).mono ?_
                  rintro e w' ⟨r,rfl,h1,h2⟩
                  exact⟨r,rfl,hb2.trans (h1.mono (by omega)),h2⟩) (fun e w' ⟨r,h1,_,h3⟩=>by
                    obtain⟨a,c',h4,_⟩:=SlIn.shape h3
                    exact⟨a,_,c',by rw[h1,h4]⟩)))
            have b1:=HBY.out.cell 0;clear hdy hty g0 b0 HR1 hm1 HQ1 y1;go_wp2_with (go_at_call 44;refine HR2.out.mono ?_;rintro e wz ⟨rfl,ov2,xf2,hm2,HQ2⟩)
            have HI2:Hid (anaD d l=anaL d l (ks.drop (k+1)) (xf2.map (·.f))):=by{show _=_;rw[HIR.out];(first | rw[if_pos trivial] | rw[if_pos rfl]);rw[hm2,HM1.out,HFK.out]}
            have HL2:Hid (xf2.length<=2*(k+1)):=by{show _<=_;have q:=congrArg List.length hm2;rw[List.length_append,List.length_map,List.length_map]at q;have:=repG_len d TB (fun c=>⟨2,kq,kd,c,(holdR d c R).map (·.id)⟩);omega}
            have HS2:Hid (AnStp (A+1) w6 wz):=HQ2.stp (HQH.out.stp (HS.out.trans (AnStp.of_below HBX.out)) (fun g hg=>(hg6 g hg).1)) hg7;have HO2:=Lib.hid HQ2.box;have HF2:=Lib.hid HQ2.row;have HK2:=Lib.hid HQ2.ok;clear hm2 HQ2;go_roundw
            case rel=>exact⟨k+1,ov2,xf2,by omega,by go_num,HI2,HL2,HS2,HO2,HF2,HK2⟩
            case measure=>simp[intOf];omega
          . have k1:(eB !=0)=true:=by simpa using he
            have HE:Hid (anaD d l=([],eB)):=by show _=_;rw[HIR.out,if_neg he]
            have HBE:Hid (Below w.heap.size w wx):=HBWA.out.trans (HEW.out.step.below HBWA.out.size (by omega));go_upto_region 15 with(fail)
            go_region
            all_goals
              go_wp2;go_ret2;rw[HE.out];exact⟨none,0,rfl,⟨none,0,rfl,Nat.le_refl _,Nat.zero_le _,fun h=>absurd rfl h⟩,by first | exact HBE.out | exact HBE.out.drew⟩
      . have HE:Hid (anaD d l=(xf.map (·.f),0)):=by show _=_;rw[HI.out,List.drop_of_length_le (by omega)];rfl
        have c0:=HO.out.cell 0;go_wp2;go_ret2;have e:(xf.map (·.f)).length=xf.length:=List.length_map _;rw[HE.out];refine⟨oa,oc,by rw[e];rfl,?_,HB6.out.trans (HS.out.below HB6.out.size (by omega))⟩;have:=own_fns HF.out.own HOK.out;rw[e];exact this
theorem FnR.open_ {w:World}{B:Nat}{x:Fnd}{b o:Nat}(h:FnR w B x b o):∃(ac:Option Addr) (cc:Nat) (ai:Option Addr) (ci:Nat),w.cell? ⟨b,o,none⟩=some (.int .i64 x.kind)/\ w.cell? ⟨b,o+1,none⟩=some (.string x.question)/\ w.cell? ⟨b,o+2,none⟩=some (.int .i64 x.day)/\ w.cell? ⟨b,o+3,none⟩=some (.slice ac x.cse.length cc)/\ w.cell? ⟨b,o+4,none⟩=some (.slice ai x.ids.length ci)/\ IntsIn w B x.cse (.slice ac x.cse.length cc)/\ StrsIn w B x.ids (.slice ai x.ids.length ci):=by
 obtain⟨y,rfl,hr,h1,h2⟩:=h;exact⟨y.ac,y.cc,y.ai,y.ci,hr 0 _ rfl,hr 1 _ rfl,hr 2 _ rfl,hr 3 _ rfl,hr 4 _ rfl,h1,h2⟩
theorem same33_any (a:List Fnd)(v u:Value)(w:World)(hv:SlIn FnR 5 w w.heap.size a v)(hu:SlIn FnR 5 w w.heap.size a u):
  Calls Tryz.prog 16 #[v,u] w fun e w'=>e=.returned (.bool true)/\ Below w.heap.size w w':=by
 obtain⟨av,cv,rfl,v1,v2,_⟩:=SlIn.shape hv;obtain⟨au,cu,rfl,_⟩:=SlIn.shape hu;unfold maxLen at v2;have HV:=Lib.hid hv;have HU:=Lib.hid hu;clear hv hu;go_enter Tryz.func16,Tryz.ntmps16;go_wp2
 go_loopw [5] (fun iv wr=>∃k:Nat,k<=a.length/\ iv=.int .i64 k/\ Hid (Below w.heap.size w wr)) (fun iv _=>a.length-(intOf iv).toNat)
 case atStart=>exact⟨0,Nat.zero_le _,rfl,Below.refl _ _⟩
 case round=>
  obtain⟨k,hk,rfl,HB⟩:=hrel;by_cases hlt:k<a.length
  ·obtain⟨b,off,rfl,hbB,h1⟩:=SlIn.at HV.out k hlt
   obtain⟨b2,off2,rfl,hbB2,h2⟩:=SlIn.at HU.out k hlt;generalize a[k]=x at*
   have HK1:Hid (∀w',Below w.heap.size w w'->FnR w' w.heap.size x b (off+k*5)):=fun w' hb=>FnR.kept _ _ _ _ _ _ hb hbB h1
   have HK2:Hid (∀w',Below w.heap.size w w'->FnR w' w.heap.size x b2 (off2+k*5)):=fun w' hb=>FnR.kept _ _ _ _ _ _ hb hbB2 h2
   clear h1 h2;obtain⟨ac,cc,ai,ci,c0,c1,c2,c3,c4,c5,c6⟩:=(HK1.out wr HB.out).open_;obtain⟨ac2,cc2,ai2,ci2,d0,d1,d2,d3,d4,d5,d6⟩:=(HK2.out wr HB.out).open_;have HEQ:=Lib.hid (refEq6_any x.cse x.cse _ _ wr w.heap.size HB.out.size c5 d5);rw[decide_eq_true rfl]at HEQ;have HC6:=Lib.hid c6;have HD6:=Lib.hid d6;have HC4:=Lib.hid c4;have HD4:=Lib.hid d4;obtain⟨_,_,hsh,s1,s2,_⟩:=SlIn.shape c6;cases hsh
   unfold maxLen at s2;have hbw:b<wr.heap.size:=by have:=HB.out.size;omega
   have hbw2:b2<wr.heap.size:=by have:=HB.out.size;omega
   have t0:(x.kind !=x.kind)=false:=by simp
   have t1:(x.question.toList !=x.question.toList)=false:=by simp
   have t1':(x.question.toList==x.question.toList)=true:=by simp
   have t2:(x.day !=x.day)=false:=by simp
   have HKC:Hid (∀w',Hid (Below wr.heap.size wr w')->(w'.cell? ⟨b,off+k*5,none⟩=some (.int .i64 x.kind)/\ w'.cell? ⟨b,off+k*5+1,none⟩=some (.string x.question)/\ w'.cell? ⟨b,off+k*5+2,none⟩=some (.int .i64 x.day)/\ w'.cell? ⟨b,off+k*5+3,none⟩=some (.slice ac x.cse.length cc)/\ w'.cell? ⟨b,off+k*5+4,none⟩=some (.slice ai x.ids.length ci)/\ w'.cell? ⟨b2,off2+k*5,none⟩=some (.int .i64 x.kind)/\ w'.cell? ⟨b2,off2+k*5+1,none⟩=some (.string x.question)/\ w'.cell? ⟨b2,off2+k*5+2,none⟩=some (.int .i64 x.day)/\ w'.cell? ⟨b2,off2+k*5+3,none⟩=some (.slice ac2 x.cse.length cc2)/\ w'.cell? ⟨b2,off2+k*5+4,none⟩=some (.slice ai2 x.ids.length ci2))/\ Hid (Below wr.heap.size wr w')):=fun w' hb=>by{(have k:=fun o=>hb.out.cell (p:=⟨b,o,none⟩) hbw);(have k2:=fun o=>hb.out.cell (p:=⟨b2,o,none⟩) hbw2);exact⟨⟨(k _).trans c0,(k _).trans c1,(k _).trans c2,(k _).trans c3,(k _).trans c4,(k2 _).trans d0,(k2 _).trans d1,(k2 _).trans d2,(k2 _).trans d3,(k2 _).trans d4⟩,hb⟩}
   have HCQ:Hid (∀w',Hid (Below wr.heap.size wr w')->Calls Tryz.prog 21 #[.slice ac x.cse.length cc,.slice ac2 x.cse.length cc2] w' fun e w''=>e=.returned (.bool true)/\ Hid (Below wr.heap.size wr w'')):=fun w' hb=>by{have q:=refEq6_any x.cse x.cse _ _ w' w.heap.size (Nat.le_trans HB.out.size hb.out.size) (SlIn.below (OneR.kept _) (hb.out.mono HB.out.size) c5) (SlIn.below (OneR.kept _) (hb.out.mono HB.out.size) d5);rw[decide_eq_true rfl]at q;refine q.mono ?_;rintro e w'' ⟨rfl,h⟩;exact⟨rfl,hb.out.trans (h.mono hb.out.size)⟩}
   clear c0 c1 c2 c3 c4 d0 d1 d2 d3 d4 c5 d5 c6 d6 HEQ;have HBw:Hid (Below wr.heap.size wr wr):=Below.refl _ _;have HBd:Hid (Below wr.heap.size wr wr.drew):=(Below.refl _ _).drew;go_upto_region 6 with(fail);simp only[List.append]
   go_region_held3 (fun w'=>(w'.cell? ⟨b,off+k*5,none⟩=some (.int .i64 x.kind)/\ w'.cell? ⟨b,off+k*5+1,none⟩=some (.string x.question)/\ w'.cell? ⟨b,off+k*5+2,none⟩=some (.int .i64 x.day)/\ w'.cell? ⟨b,off+k*5+3,none⟩=some (.slice ac x.cse.length cc)/\ w'.cell? ⟨b,off+k*5+4,none⟩=some (.slice ai x.ids.length ci)/\ w'.cell? ⟨b2,off2+k*5,none⟩=some (.int .i64 x.kind)/\ w'.cell? ⟨b2,off2+k*5+1,none⟩=some (.string x.question)/\ w'.cell? ⟨b2,off2+k*5+2,none⟩=some (.int .i64 x.day)/\ w'.cell? ⟨b2,off2+k*5+3,none⟩=some (.slice ac2 x.cse.length cc2)/\ w'.cell? ⟨b2,off2+k*5+4,none⟩=some (.slice ai2 x.ids.length ci2))/\ Hid (Below wr.heap.size wr w'))
    (exact HKC.out _ (by assumption))
    ((go_at_call 21;refine(HCQ.out _ (by assumption)).mono ?_;rintro e w2 ⟨rfl,HC2⟩))
   clear HBw HBd HCQ;go_wp2;have g4:=(HC2.out.cell (p:=⟨b,off+k*5+4,none⟩) hbw).trans HC4.out;have k4:=(HC2.out.cell (p:=⟨b2,off2+k*5+4,none⟩) hbw2).trans HD4.out;go_wp2
   go_loopw [6] (fun jv wj=>∃j:Nat,j<=x.ids.length/\ jv=.int .i64 j/\ Hid (Below wr.heap.size wr wj)) (fun jv _=>x.ids.length-(intOf jv).toNat)
   case atStart=>exact⟨0,Nat.zero_le _,rfl,HC2⟩
   case round=>((rename World=>wj);obtain⟨j,hj,rfl,HBJ⟩:=hrel;clear g4 k4;have g5:=(HBJ.out.cell (p:=⟨b,off+k*5+4,none⟩) hbw).trans HC4.out;have k5:=(HBJ.out.cell (p:=⟨b2,off2+k*5+4,none⟩) hbw2).trans HD4.out;by_cases hjl:j<x.ids.length;{obtain⟨b3,o3,rfl,hb3,hs3⟩:=SlIn.one HC6.out j hjl;obtain⟨b4,o4,rfl,hb4,hs4⟩:=SlIn.one HD6.out j hjl;have q1:=(HBJ.out.cell (p:=⟨b3,o3+j,none⟩) (by show b3<wr.heap.size;have:=HB.out.size;omega)).trans hs3;have q2:=(HBJ.out.cell (p:=⟨b4,o4+j,none⟩) (by show b4<wr.heap.size;have:=HB.out.size;omega)).trans hs4;generalize x.ids[j]=s at*;(have t3:(s.toList !=s.toList)=false:=by simp);(have t3':(s.toList==s.toList)=true:=by simp);clear hs3 hs4;go_wp2;go_quiet(fail);go_wp2;go_roundw;(case rel=>exact⟨j+1,by omega,by go_num,Lib.hid (HBJ.out.trans ((World.drewN_below _ _ _).mono HBJ.out.size))⟩);case measure=>simp[intOf];omega};{go_wp2;have HBN:=Lib.hid (HB.out.trans (HBJ.out.mono HB.out.size));go_roundw;(case rel=>exact⟨k+1,by omega,by go_num,HBN⟩);case measure=>simp[intOf];omega})
  {go_wp2;go_ret;exact⟨rfl,HB.out⟩}
end Go.Proofs.YtihniipjfdenbaaGreatDoor
