/- The walk of the closure of diagram.starts that gathers the numbers of a fact's tests. A bound on the formula's size. -/
import Derived.Test.YtihniipjfdenbaaGreatDoorDgGJ
set_option maxRecDepth 100000
set_option maxHeartbeats 4000000
namespace Go.Proofs.YtihniipjfdenbaaGreatDoor
section
open Go.RowKit
open Go.Sort (grow)
abbrev Bld (B b:Nat)(bs:List UInt8)(w:World):Prop:=Lib.IsBuilderF 180 5 B b (Lib.byteCells bs) w
theorem bld_below {B b:Nat}{bs:List UInt8}{w w':World}(h:Bld B b bs w)(hb:Below w.heap.size w w'):Bld B b bs w':=by
 have f:∀p,Lib.BuilderAtF 180 5 B b p (Lib.byteCells bs) w->Lib.BuilderAtF 180 5 B b p (Lib.byteCells bs) w':=by{rintro p ⟨h1,v,h2,h3,h4⟩;refine⟨h1,v,(hb.block b (heap_lt h2)).trans h2,⟨h3.1,h3.2.imp id ?_⟩,h4⟩;rintro⟨g,cap,cur,fz,e1,e2,e3,e4⟩;exact⟨g,cap,cur,fz,e1,e2,(hb.block g (heap_lt e3)).trans e3,e4⟩}
 exact h.imp (f _) (f _)
structure SpS (B b bx : Nat) (cs : Array Value) (bs : List UInt8) (w0 w : World) : Prop where
 bld:Bld B b bs w
 bel:Below B w0 w
 oth:Lib.OthersKept 5 (some b) w0 w
 box:Blk w bx 47 cs
 ne:bx≠b
 ge:B<=w.heap.size
variable {B b bx : Nat} {cs : Array Value} {bs : List UInt8} {w0 w : World}
theorem oth_below {w w':World}{b:Nat}(hb:Below w.heap.size w w'):Lib.OthersKept 5 (some b) w w':=fun k _ h _ _=>(hb.block k (heap_lt h)).trans h
theorem SpS.below (h:SpS B b bx cs bs w0 w){w':World}(hb:Below w.heap.size w w'):SpS B b bx cs bs w0 w':=
 ⟨bld_below h.bld hb,h.bel.trans (hb.mono h.ge),h.oth.trans (oth_below hb),h.box.below hb,h.ne,by have:=hb.size;have:=h.ge;omega⟩
theorem SpS.more (h:SpS B b bx cs bs w0 w){w':World}{bs':List UInt8}(h1:Bld B b bs' w')(h2:Below B w w')(h3:Lib.OthersKept 5 (some b) w w'):SpS B b bx cs bs' w0 w':=
 ⟨h1,h.bel.trans h2,h.oth.trans h3,h3 bx _ h.box (by have:=h.ne;simp[this]) (not_bytes (by decide)),h.ne,by have:=h2.size;have:=h.ge;omega⟩
theorem grow_below (w:World)(k:Nat)(os:Array Obj):Below w.heap.size w (grow (w.drewN k) os):=
 (World.drewN_below w.heap.size w k).trans ⟨rfl,rfl,rfl,by simp[grow],fun b hb=>by simp only[grow];rw[Array.getElem?_append_left (by simpa using hb)]⟩
theorem SpS.itoa (h:SpS B b bx cs bs w0 w)(hT:Lib.TabBelow Tryz.prog B w0 "internal/strconv.uint64pow10" .u64 Lib.pow10Tab)(n:Int)(hn:W64 n):
  Calls Tryz.prog 149 #[.int .i64 n] w fun e w'=>∃s:ByteArray,e=.returned (.string s)/\ Hid (SpS B b bx cs bs w0 w')/\ s.size<=21/\ Hid (s.toList=Lib.itoa n):=by
 refine(Tryz.strconv_Itoa n hn.1 hn.2 w (hT.on h.bel).here).mono ?_;rintro e w' ⟨rfl,k,os,rfl⟩;refine⟨_,rfl,h.below (grow_below w k os),?_,?_⟩
 {have:=Lib.itoa_length_le n hn.1 hn.2;simpa[ByteArray.size]using this}
 {show _=_;rw[ByteArray.toList_eq]}
theorem SpS.str (h:SpS B b bx cs bs w0 w)(s:ByteArray)(hl:bs.length+s.size<=100000000000):
  Calls Tryz.prog 181 #[.pointer (some ⟨b,0,none⟩),.string s] w fun e w'=>e=.returned (.tuple #[.int .i64 s.size,.nilIface])/\ Hid (SpS B b bx cs (bs++s.toList) w0 w'):=by
 refine(Tryz.Builder_WriteString_k B b _ s w h.bld (by simp[Lib.byteCells];omega) h.ge).mono ?_;rintro e w' ⟨rfl,h1,h2,h3⟩;refine⟨rfl,h.more (.inr ?_) h2 h3⟩;rw[Lib.byteCells_append,ByteArray.toList_eq];exact h1
theorem SpS.byte (h:SpS B b bx cs bs w0 w)(c:UInt8)(hl:bs.length<=100000000000):
  Calls Tryz.prog 182 #[.pointer (some ⟨b,0,none⟩),.int .u8 c.toNat] w fun e w'=>e=.returned .nilIface/\ Hid (SpS B b bx cs (bs++[c]) w0 w'):=by
 refine(Tryz.Builder_WriteByte_k B b _ c.toNat w h.bld (by simp[Lib.byteCells];omega) h.ge).mono ?_;rintro e w' ⟨rfl,h1,h2,h3⟩;refine⟨rfl,h.more (.inr ?_) h2 h3⟩;rw[Lib.byteCells_append];exact h1
theorem nums_len (op c n:Int)(nm:ByteArray)(h1:W64 op)(h2:W64 c)(h3:W64 n)(h:nm.size<=24):(Lib.itoa op++nm.toList++44::Lib.itoa c++44::Lib.itoa n++[40]).length<=100:=by
 have a1:=Lib.itoa_length_le op h1.1 h1.2;have a2:=Lib.itoa_length_le c h2.1 h2.2;have a3:=Lib.itoa_length_le n h3.1 h3.2;have a4:nm.toList.length=nm.size:=by rw[ByteArray.toList_eq];rfl
 simp only[List.length_append,List.length_cons,List.length_nil];omega
theorem spc {v0 v1 v2 v3 v4:Value}(h:Hid (SpS B b bx #[v0,v1,v2,v3,v4] bs w0 w)):w.cell? ⟨bx,0,none⟩=some v0/\ w.cell? ⟨bx,1,none⟩=some v1/\ w.cell? ⟨bx,2,none⟩=some v2/\ w.cell? ⟨bx,3,none⟩=some v3:=
 ⟨h.out.box.cell 0,h.out.box.cell 1,h.out.box.cell 2,h.out.box.cell 3⟩
theorem SpS.close (h:SpS B b bx cs bs w0 w)(hl:bs.length<=100000000000):
  Calls Tryz.prog 182 #[.pointer (some ⟨b,0,none⟩),.int .u8 41] w fun e w'=>e=.returned .nilIface/\ Hid (SpS B b bx cs (bs++[41]) w0 w'):=h.byte 41 hl
theorem spells_flat :∀ks:List Fo,spellsT ks=ks.flatMap spellT
 | []=>rfl
 | k::ks=>by rw[spellsT,List.flatMap_cons,spells_flat ks]
theorem spells_snoc (ks:List Fo)(j:Nat)(h:j<ks.length):spellsT (ks.take (j+1))=spellsT (ks.take j)++spellT ks[j]:=by
 rw[spells_flat,spells_flat,List.take_succ_eq_append_getElem h,List.flatMap_append]
 simp
theorem spells_take (ks:List Fo)(j:Nat):(spellsT (ks.take j)).length<=(spellsT ks).length:=by
 conv=>rhs;rw[<-List.take_append_drop j ks]
 rw[spells_flat,spells_flat,List.flatMap_append,List.length_append];omega
def headT (op c n:Int)(nm:ByteArray):List UInt8:=Lib.itoa op++nm.toList++44::Lib.itoa c++44::Lib.itoa n++[40]
theorem head_eq {op c n:Int}{nm s1 s2 s3:ByteArray}(h1:Hid (s1.toList=Lib.itoa op))(h2:Hid (s2.toList=Lib.itoa c))(h3:Hid (s3.toList=Lib.itoa n)):
  (s1++nm++(⟨#[44]⟩:ByteArray)++s2++(⟨#[44]⟩:ByteArray)++s3++(⟨#[40]⟩:ByteArray)).toList=headT op c n nm:=by
 have ha:∀a b:ByteArray,(a++b).toList=a.toList++b.toList:=fun a b=>by simp[ByteArray.toList_eq]
 have e1:∀u:UInt8,(⟨#[u]⟩:ByteArray).toList=[u]:=fun u=>by rw[ByteArray.toList_eq]
 unfold headT;simp only[ha,e1,h1.out,h2.out,h3.out]
 simp
theorem spell_eq (op c n:Int)(nm:ByteArray)(ks:List Fo):spellT (.mk op nm c n ks)=headT op c n nm++spellsT ks++[41]:=by
 rw[spellT];unfold headT;simp
theorem spell_step (B b:Nat)(op c n:Int)(nm:ByteArray)(ks:List Fo)(hnm:nm.size<=24)
  (IH:∀k∈ks,∀(v:Value) (bs:List UInt8) (w:World),k.In w B v→Bld B b bs w→Lib.TabBelow Tryz.prog B w "internal/strconv.uint64pow10" .u64 Lib.pow10Tab→B≤w.heap.size→bs.length+(spellT k).length≤1000000000→
   Calls Tryz.prog 148 #[.pointer (some ⟨b,0,none⟩),v] w fun e w'=>e=.returned (.tuple #[])/\ Bld B b (bs++spellT k) w'/\ Below B w w'/\ Lib.OthersKept 5 (some b) w w')
  (v:Value) (bs:List UInt8) (w:World) (hf:(Fo.mk op nm c n ks).In w B v) (hb:Bld B b bs w) (hT:Lib.TabBelow Tryz.prog B w "internal/strconv.uint64pow10" .u64 Lib.pow10Tab) (hB:B≤w.heap.size) (hl:bs.length+(spellT (.mk op nm c n ks)).length≤1000000000):
  Calls Tryz.prog 148 #[.pointer (some ⟨b,0,none⟩),v] w fun e w'=>e=.returned (.tuple #[])/\ Bld B b (bs++spellT (.mk op nm c n ks)) w'/\ Below B w w'/\ Lib.OthersKept 5 (some b) w w':=by
 obtain⟨ao,cap,rfl,w1,w2,w3,w4,k1,k2,hk⟩:=hf;unfold maxLen at k2;have hbw:b<w.heap.size:=by rcases hb with h | h<;>exact h.lt
 have HS0:Hid (SpS B b w.heap.size #[.int .i64 op,.string nm,.int .i64 c,.int .i64 n,.slice ao ks.length cap] bs (w.alloc (.cells #[.int .i64 op,.string nm,.int .i64 c,.int .i64 n,.slice ao ks.length cap] 47)) (w.alloc (.cells #[.int .i64 op,.string nm,.int .i64 c,.int .i64 n,.slice ao ks.length cap] 47))):=
  ⟨bld_below hb ((Below.refl _ _).alloc (Nat.le_refl _) _),Below.refl _ _,Lib.OthersKept.refl _ _ _,Blk.new _ _ _,by omega,by simp;omega⟩
 have HT:=Lib.hid (hT.on ((Below.refl _ _).alloc hB (.cells #[.int .i64 op,.string nm,.int .i64 c,.int .i64 n,.slice ao ks.length cap] 47)));have HIH:=Lib.hid IH;have HK:=Lib.hid hk;have HL:=Lib.hid hl;have hbl:bs.length<=1000000000:=by omega
 have n0:=HS0.out.box.cell 0;have n1:=HS0.out.box.cell 1;have n2:=HS0.out.box.cell 2;have n3:=HS0.out.box.cell 3;clear hb hT IH hk hl;go_enter Tryz.func148,Tryz.ntmps148;go_upto_region 1 with(fail);have HS0d:=Lib.hid (HS0.out.below (w':=(w.alloc (.cells #[.int .i64 op,.string nm,.int .i64 c,.int .i64 n,.slice ao ks.length cap] 47)).drew) ((Below.refl _ _).drew));clear HS0
 have hM:=Lib.hid (fun(wx:World) (s1 s2 s3:ByteArray) (h1:Hid (s1.toList=Lib.itoa op)) (h2:Hid (s2.toList=Lib.itoa c)) (h3:Hid (s3.toList=Lib.itoa n)) (h:Hid (SpS B b w.heap.size #[.int .i64 op,.string nm,.int .i64 c,.int .i64 n,.slice ao ks.length cap] (bs++(s1++nm++(⟨#[44]⟩:ByteArray)++s2++(⟨#[44]⟩:ByteArray)++s3++(⟨#[40]⟩:ByteArray)).toList) (w.alloc (.cells #[.int .i64 op,.string nm,.int .i64 c,.int .i64 n,.slice ao ks.length cap] 47)) wx))=>
  Lib.hid (show SpS B b w.heap.size #[.int .i64 op,.string nm,.int .i64 c,.int .i64 n,.slice ao ks.length cap] (bs++headT op c n nm) (w.alloc (.cells #[.int .i64 op,.string nm,.int .i64 c,.int .i64 n,.slice ao ks.length cap] 47)) wx from by rw[<-head_eq h1 h2 h3];exact h.out))
 go_cut[] (fun wx=>Hid (SpS B b w.heap.size #[.int .i64 op,.string nm,.int .i64 c,.int .i64 n,.slice ao ks.length cap] (bs++headT op c n nm) (w.alloc (.cells #[.int .i64 op,.string nm,.int .i64 c,.int .i64 n,.slice ao ks.length cap] 47)) wx))
 case first=>(refine wp_region_held_drew (S:=(fun w':World=>w'.cell? ⟨w.heap.size,0,none⟩=some (.int .i64 op)/\ w'.cell? ⟨w.heap.size,1,none⟩=some (.string nm)/\ w'.cell? ⟨w.heap.size,2,none⟩=some (.int .i64 c)/\ w'.cell? ⟨w.heap.size,3,none⟩=some (.int .i64 n))) (by kernel_rfl) (spc HS0d) (fun hHeld=>?_);refine tp 0 ?_;refine tp 1 ?_;refine tp 4 ?_;refine tp 8 ?_;refine tp 13 ?_;refine tk 2 ?v2 ?y2 ?_;(case y2=>(intro w9 hSw;obtain⟨y0,y1,y2,y3⟩:=hSw;go_simp;try with_reducible rfl));refine tk 5 ?v5 ?y5 ?_;(case y5=>(intro w9 hSw;obtain⟨y0,y1,y2,y3⟩:=hSw;go_simp;try with_reducible rfl));refine tk 9 ?v9 ?y9 ?_;(case y9=>(intro w9 hSw;obtain⟨y0,y1,y2,y3⟩:=hSw;go_simp;try with_reducible rfl));refine tk 14 ?v14 ?y14 ?_;(case y14=>(intro w9 hSw;obtain⟨y0,y1,y2,y3⟩:=hSw;go_simp;try with_reducible rfl));refine tr 3 (fun K hK=>?_);(go_simp;go_at_call 149;refine(SpS.itoa HS0d.out HT.out _ w1).mono ?_;rintro e w4 ⟨sI1,rfl,HS4,hsI1,HsI1⟩);refine hK.out _ _ ?_ (fun hHeld=>?_);{exact spc HS4};clear hK K;(try simp only[Act.put,sA,sB,sC]);refine tk 6 ?v6 ?y6 ?_;(case y6=>(intro w9 _;go_simp;first | (rw[if_neg (by(try simp only[ByteArray.size_append]);have hz:∀u:UInt8,(ByteArray.mk #[u]).size=1:=fun _=>rfl;(try simp only[hz]);omega)]) | rfl));refine tk 7 ?v7 ?y7 ?_;(case y7=>(intro w9 _;go_simp;first | (rw[if_neg (by(try simp only[ByteArray.size_append]);have hz:∀u:UInt8,(ByteArray.mk #[u]).size=1:=fun _=>rfl;(try simp only[hz]);omega)]) | rfl));refine tr 10 (fun K hK=>?_);(go_simp;go_at_call 149;refine(SpS.itoa HS4.out HT.out _ w2).mono ?_;rintro e w5 ⟨sI2,rfl,HS5,hsI2,HsI2⟩);refine hK.out _ _ ?_ (fun hHeld=>?_);{exact spc HS5};clear hK K;(try simp only[Act.put,sA,sB,sC]);refine tk 11 ?v11 ?y11 ?_;(case y11=>(intro w9 _;go_simp;first | (rw[if_neg (by(try simp only[ByteArray.size_append]);have hz:∀u:UInt8,(ByteArray.mk #[u]).size=1:=fun _=>rfl;(try simp only[hz]);omega)]) | rfl));refine tk 12 ?v12 ?y12 ?_;(case y12=>(intro w9 _;go_simp;first | (rw[if_neg (by(try simp only[ByteArray.size_append]);have hz:∀u:UInt8,(ByteArray.mk #[u]).size=1:=fun _=>rfl;(try simp only[hz]);omega)]) | rfl));refine tr 15 (fun K hK=>?_);(go_simp;go_at_call 149;refine(SpS.itoa HS5.out HT.out _ w3).mono ?_;rintro e w6 ⟨sI3,rfl,HS6,hsI3,HsI3⟩);refine hK.out _ _ ?_ (fun hHeld=>?_);{exact spc HS6};clear hK K;(try simp only[Act.put,sA,sB,sC]);refine tk 16 ?v16 ?y16 ?_;(case y16=>(intro w9 _;go_simp;first | (rw[if_neg (by(try simp only[ByteArray.size_append]);have hz:∀u:UInt8,(ByteArray.mk #[u]).size=1:=fun _=>rfl;(try simp only[hz]);omega)]) | rfl));refine tk 17 ?v17 ?y17 ?_;(case y17=>(intro w9 _;go_simp;first | (rw[if_neg (by(try simp only[ByteArray.size_append]);have hz:∀u:UInt8,(ByteArray.mk #[u]).size=1:=fun _=>rfl;(try simp only[hz]);omega)]) | rfl));refine tr 18 (fun K hK=>?_);(go_simp;go_at_call 181;refine(SpS.str HS6.out _ (by simp only[ByteArray.size_append];have hz:∀u:UInt8,(ByteArray.mk #[u]).size=1:=fun _=>rfl;simp only[hz];omega)).mono ?_;rintro e w7 ⟨rfl,HS7⟩);refine hK.out _ _ ?_ (fun hHeld=>?_);{exact spc HS7};clear hK K;(try simp only[Act.put,sA,sB,sC]);refine wpAnyH_done (by kernel_rfl) ?_ _;skip;go_wp2;go_meet;case rel=>exact hM.out _ _ _ _ HsI1 HsI2 HsI3 HS7)
 case rest=>
  rename World=>wx
  have HS:=hcut;clear hcut hM;have hgeB:=HS.out.ge;have g4:=HS.out.box.cell 4;have HW1:Hid (Below B w (w.alloc (.cells #[.int .i64 op,.string nm,.int .i64 c,.int .i64 n,.slice ao ks.length cap] 47))):=(Below.refl _ _).alloc hB _
  have HJ0:Hid (SpS B b w.heap.size #[.int .i64 op,.string nm,.int .i64 c,.int .i64 n,.slice ao ks.length cap] (bs++headT op c n nm++spellsT (ks.take 0)) (w.alloc (.cells #[.int .i64 op,.string nm,.int .i64 c,.int .i64 n,.slice ao ks.length cap] 47)) wx):=by{show SpS _ _ _ _ _ _ _;have q:=HS.out;simpa[spellsT]using q}
  have HLE:=Lib.hid (show bs.length+((headT op c n nm).length+(spellsT ks).length+1)<=1000000000 by
   have q:=HL.out
   rw[spell_eq]at q
   simp only[List.length_append,List.length_cons,List.length_nil]at q
   omega)
  go_wp2
  go_loopw [28] (fun iv wr=>∃(j:Nat),j<=ks.length/\ iv=.int .i64 j/\ Hid (SpS B b w.heap.size #[.int .i64 op,.string nm,.int .i64 c,.int .i64 n,.slice ao ks.length cap] (bs++headT op c n nm++spellsT (ks.take j)) (w.alloc (.cells #[.int .i64 op,.string nm,.int .i64 c,.int .i64 n,.slice ao ks.length cap] 47)) wr)) (fun iv _=>ks.length-(intOf iv).toNat)
  case atStart=>exact⟨0,by omega,rfl,HJ0⟩
  case round=>
   obtain⟨j,hj,rfl,hJ⟩:=hrel;clear HJ0 HS g4;have hge:=hJ.out.ge;by_cases hlt:j<ks.length
   ·obtain⟨kb,off,rfl,hkB,hL⟩:=HK.out (by intro e;rw[e]at hlt;simp at hlt)
    have hbw2:=HW1.out.trans hJ.out.bel;obtain⟨ka,kc,c0,c1,c2,c3,c4,hKid⟩:=Fo.InL.get ks off j hlt (Fo.InL.below hbw2 hkB ks off hL);have hsn:=spells_snoc ks j hlt;have hst:=spells_take ks (j+1)
    have HI:=Lib.hid (HIH.out ks[j] (List.getElem_mem _) _ (bs++headT op c n nm++spellsT (ks.take j)) (wr.alloc (.cells #[.int .i64 ks[j].op,.string ks[j].name,.int .i64 ks[j].cmp,.int .i64 ks[j].n,.slice ka ks[j].kids.length kc] 47))
     (Fo.In.below ((Below.refl _ _).alloc hge _) _ _ hKid) (bld_below hJ.out.bld ((Below.refl _ _).alloc (Nat.le_refl _) _)) (HT.out.on (hJ.out.bel.alloc hge _)) (by simp;omega) (by
      have q:=HLE.out
      rw[hsn]at hst
      simp only[List.length_append]at hst⊢
      omega))
    have HJN:=Lib.hid (fun(w5:World) (h1:Bld B b ((bs++headT op c n nm++spellsT (ks.take j))++spellT ks[j]) w5) (h2:Below B (wr.alloc (.cells #[.int .i64 ks[j].op,.string ks[j].name,.int .i64 ks[j].cmp,.int .i64 ks[j].n,.slice ka ks[j].kids.length kc] 47)) w5) (h3:Lib.OthersKept 5 (some b) (wr.alloc (.cells #[.int .i64 ks[j].op,.string ks[j].name,.int .i64 ks[j].cmp,.int .i64 ks[j].n,.slice ka ks[j].kids.length kc] 47)) w5)=>
     (hJ.out.below ((Below.refl wr.heap.size wr).alloc (Nat.le_refl _) (.cells #[.int .i64 ks[j].op,.string ks[j].name,.int .i64 ks[j].cmp,.int .i64 ks[j].n,.slice ka ks[j].kids.length kc] 47))).more (w':=w5) h1 h2 h3)
    have HSN:=Lib.hid (show bs++headT op c n nm++spellsT (ks.take j)++spellT ks[j]=bs++headT op c n nm++spellsT (ks.take (j+1)) by rw[hsn];simp);have hkb2:kb<wr.heap.size:=by omega
    clear hKid hL hbw2 hJ hsn hst;go_wp2_with (go_at_call 148;refine HI.out.mono ?_;rintro e w5 ⟨rfl,h1,h2,h3⟩;have H5:=Lib.hid (HJN.out w5 h1 h2 h3);clear h1 h2 h3);go_roundw
    case rel=>exact⟨j+1,by omega,by go_num,by rw[<-HSN.out];exact H5⟩
    case measure=>simp[intOf];omega
   {(obtain rfl:j=ks.length:=by omega);have hlen:(bs++headT op c n nm++spellsT (ks.take ks.length)).length<=100000000000:=by{have q:=HLE.out;rw[List.take_length];simp only[List.length_append];omega};have HC:=Lib.hid (hJ.out.close hlen);have HW2:=Lib.hid (show Lib.OthersKept 5 (some b) w (w.alloc (.cells #[.int .i64 op,.string nm,.int .i64 c,.int .i64 n,.slice ao ks.length cap] 47))from oth_below ((Below.refl _ _).alloc (Nat.le_refl _) _));go_wp2_with (go_at_call 182;refine HC.out.mono ?_;rintro e w5 ⟨rfl,H5⟩);go_end0;refine⟨rfl,?_,HW1.out.trans H5.out.bel,HW2.out.trans H5.out.oth⟩;have q:=H5.out.bld;rw[List.take_length]at q;rw[spell_eq];simpa using q}
theorem spell_any (d:List Fa)(B b:Nat):∀(N:Nat) (f:Fo),f.size≤N→WfF d f→∀(v:Value) (bs:List UInt8) (w:World),f.In w B v→Bld B b bs w→Lib.TabBelow Tryz.prog B w "internal/strconv.uint64pow10" .u64 Lib.pow10Tab→B≤w.heap.size→bs.length+(spellT f).length≤1000000000→
   Calls Tryz.prog 148 #[.pointer (some ⟨b,0,none⟩),v] w fun e w'=>e=.returned (.tuple #[])/\ Bld B b (bs++spellT f) w'/\ Below B w w'/\ Lib.OthersKept 5 (some b) w w':=by
 intro N
 induction N with| zero=>intro f h;obtain⟨op,s,c,n,ks⟩:=f;rw[Fo.size]at h;omega| succ N ih=>{intro f h hw v bs w hf hb hT hB hl;obtain⟨op,s,c,n,ks⟩:=f;have hk:=size_kid op c n s ks;rw[WfF]at hw;have hs:s.size<=24:=by{(rcases hw with⟨_,rfl,_⟩ | ⟨_,_,_,h1,_⟩ | ⟨_,rfl,_⟩);{decide};{unfold nameB at h1;simp only[Bool.and_eq_true,decide_eq_true_eq]at h1;exact h1.2};{decide}};refine spell_step B b op c n s ks hs (fun k hm=>ih k (by have:=hk k hm;omega) ?_) v bs w hf hb hT hB hl;(rcases hw with⟨_,_,_,_,rfl⟩ | ⟨_,_,_,_,_,rfl⟩ | ⟨_,_,_,_,h2⟩);{cases hm};{cases hm};{exact(WfL_iff d ks).1 h2 k hm}}
end
open Go.RowKit
structure StC (w0 : World) (R : Nat) (l : List Int) (W : World) : Prop where
 os:W.os=w0.os
 tape:W.tape=w0.tape
 output:W.output=w0.output
 size:w0.heap.size<=W.heap.size
 old:∀b,b<w0.heap.size->b≠R->b≠R+1->W.heap[b]? =w0.heap[b]?
 ord:∃v,Blk W (R+1) 26 #[v]/\ W.ownsRow R 3 1 v l.length (l.map iW)/\ ∀g,v.ownBlock=some g->g=R\/w0.heap.size<=g
structure EnvC (w0 : World) (FX R : Nat) (fa : Fa) : Prop where
 fact:Blk w0 FX 86 #[.string fa.name,.int .i64 fa.kind,.int .i64 fa.lo,.int .i64 fa.hi]
 fn:Blk w0 (R+2) 210 #[(.func (.func 184) #[] #[.pointer (some ⟨FX,0,none⟩),.pointer (some ⟨R+1,0,none⟩),.pointer (some ⟨R+2,0,none⟩)])]
 lt:FX<R
 size:R+3<=w0.heap.size
theorem StC.below {w0 W:World}{R:Nat}{l:List Int}(h:StC w0 R l W)(hs:R<=w0.heap.size):Below R w0 W:=⟨h.os,h.tape,h.output,h.size,fun b hb=>h.old b (by omega) (by omega) (by omega)⟩
theorem StC.blk {w0 W:World}{R:Nat}{l:List Int}(h:StC w0 R l W){b:Nat}{t:TypeId}{cs:Array Value}(hb:Blk w0 b t cs)(h1:b≠R)(h2:b≠R+1):Blk W b t cs:=(h.old b hb.lt h1 h2).trans hb
theorem StC.more {w0 W W':World}{R:Nat}{l:List Int}(h:StC w0 R l W)(hb:Below W.heap.size W W'):StC w0 R l W':=by
 obtain⟨v,h1,h2,h3⟩:=h.ord;exact⟨hb.os.trans h.os,hb.tape.trans h.tape,hb.output.trans h.output,Nat.le_trans h.size hb.size,fun b q1 q2 q3=>(hb.block b (by have:=h.size;omega)).trans (h.old b q1 q2 q3),v,h1.below hb,own_under h2 hb,h3⟩
theorem int_ne {W:World}{b base t n:Nat}{cs:Array Value}{xs:List Value}{v:Value}(ht:t≠3)(hv:Blk W b t cs)(hown:W.ownsRow base 3 1 v n xs):∀g,v.ownBlock=some g->g≠b:=fun g e=>by
 rcases hown.2 with⟨rfl,_⟩ | ⟨g',cap,cur,rfl,_,hg',_⟩
 {cases e}
 {(have:g'=g:=by simpa[Value.ownBlock]using e);subst this;rintro rfl;have hv':W.heap[g']? =some (.cells cs t):=hv;rw[hg']at hv';injection hv' with hv';injection hv' with _ h _;exact ht h.symm}
theorem ord_ne {W:World}{R base:Nat}{l:List Int}{v:Value}(hv:Blk W (R+1) 26 #[v])(hown:W.ownsRow base 3 1 v l.length (l.map iW)):∀g,v.ownBlock=some g->g≠R+1:=int_ne (by decide) hv hown
theorem StC.push {w0 W w7:World}{R:Nat}{l:List Int}{v v7:Value}{o:Obj}{x y:Int}(h:StC w0 R l W)(hsz:R+3<=w0.heap.size)(hv:Blk W (R+1) 26 #[v])(hown:W.ownsRow R 3 1 v l.length (l.map iW))(ht:∀g,v.ownBlock=some g->g=R\/w0.heap.size<=g)
  (h7:w7.ownsRow R 3 1 v7 (l.length+2) (l.map iW++[iW x,iW y])) (hg:(W.alloc o).grownBy w7 v.ownBlock) (hat:v7.ownBlock=v.ownBlock\/v7.ownBlock=some (W.alloc o).heap.size):StC w0 R (l++[x,y]) (w7.setCell ⟨R+1,0,none⟩ v7):=by
 have hs:=h.size;have hs7:=hg.size;rw[World.size_alloc]at hs7 hat;have hne:=ord_ne hv hown
 have hb:∀b,b<W.heap.size->(∀g,v.ownBlock=some g->b≠g)->w7.heap[b]? =W.heap[b]? :=fun b h1 h2=>by{rw[hg.block b (by simp;omega) (fun e=>h2 b e.symm rfl),Below.heap_alloc _ _ _ h1]}
 refine⟨hg.os.trans h.os,hg.tape.trans h.tape,hg.output.trans h.output,by simp;omega,fun b q1 q2 q3=>?_,v7,?_,?_,fun g e=>?_⟩
 {rw[Below.heap_setCell _ _ _ b q3,hb b (by omega) (fun g e=>by rcases ht g e with r | r<;>omega),h.old b q1 q2 q3]}
 {exact Blk.set (cs:=#[v]) ((hb (R+1) (by omega) (fun g e=>(hne g e).symm)).trans hv) 0 v7}
 {rw[List.length_append,List.map_append];(refine own_struck h7 _ _ fun g e=>?_);show g≠R+1;(rcases hat with q | q);{exact hne g (by rw[<-q];exact e)};{rw[q]at e;cases e;omega}}
 {(rcases hat with q | q);{exact ht g (by rw[<-q];exact e)};{rw[q]at e;cases e;right;omega}}
theorem nums_mk (nm:ByteArray)(op c n:Int)(s:ByteArray)(ks:List Fo):numsF nm (.mk op s c n ks)=(if op=3/\ eqB s nm=true then[n,n+1]else[])++ks.flatMap (numsF nm):=by
 have hL:∀ks:List Fo,((testsL ks).filter fun t=>eqB t.1 nm).flatMap (fun t=>[t.2.2,t.2.2+1])=ks.flatMap (numsF nm):=by{intro ks;induction ks with| nil=>simp[testsL]| cons k ks ih=>rw[testsL,List.filter_append,List.flatMap_append,ih,List.flatMap_cons];rfl}
 unfold numsF;rw[testsF,List.filter_append,List.flatMap_append,hL];congr 1
 by_cases h:op=3
 {simp only[h,if_true,true_and,List.filter_cons,List.filter_nil];cases eqB s nm<;>simp}
 {simp[h]}
theorem tests_len :∀(N:Nat) (f:Fo),f.size<=N->(testsF f).length<=f.size:=by
 intro N
 induction N with| zero=>intro f h;obtain⟨op,s,c,n,ks⟩:=f;rw[Fo.size]at h;omega| succ N ih=>{intro f h;obtain⟨op,s,c,n,ks⟩:=f;rw[Fo.size]at h⊢;have:∀ks:List Fo,Fo.sizeL ks<=N->(testsL ks).length<=Fo.sizeL ks:=by{intro ks;induction ks with| nil=>intro _;simp[testsL]| cons k ks ihk=>{intro hk;rw[Fo.sizeL]at hk⊢;rw[testsL,List.length_append];have:=ih k (by omega);have:=ihk (by omega);omega}};have:=this ks (by omega);rw[testsF,List.length_append];split<;>simp only[List.length_cons,List.length_nil]<;>omega}
theorem numsF_len (nm:ByteArray)(f:Fo):(numsF nm f).length<=2*f.size:=by
 have h1:=tests_len f.size f (Nat.le_refl _)
 have h2:∀l:List (ByteArray×Int×Int),(l.flatMap fun t=>[t.2.2,t.2.2+1]).length=2*l.length:=by{intro l;induction l with| nil=>rfl| cons a l ih=>rw[List.flatMap_cons,List.length_append,ih];simp;omega}
 unfold numsF;rw[h2];have:=List.length_filter_le (fun t=>eqB t.1 nm) (testsF f);omega
abbrev NumW (B:Nat)(w0:World)(FX R:Nat)(fa:Fa)(f:Fo):Prop:=
 ∀(v:Value) (l:List Int) (W:World),StC w0 R l W->f.In w0 B v->l.length+2*f.size<=900000->
  Calls Tryz.prog 184 #[v,.pointer (some ⟨FX,0,none⟩),.pointer (some ⟨R+1,0,none⟩),.pointer (some ⟨R+2,0,none⟩)] W fun e W'=>e=.returned (.tuple #[])/\ StC w0 R (l++numsF fa.name f) W'
theorem nums_other (B:Nat)(w0:World)(FX R:Nat)(fa:Fa)(hE:EnvC w0 FX R fa)(hB:B<=R)(op c n:Int)(s:ByteArray)(ks:List Fo)(h3:op≠3)(IH:∀k∈ks,NumW B w0 FX R fa k):NumW B w0 FX R fa (.mk op s c n ks):=by
 intro v l W hS hf hl;obtain⟨ao,cap,rfl,w1,w2,w3,w4,k1,k2,hk⟩:=hf;have hsz:=hS.size;have hsR:=hE.size;have hfx:=hE.lt;have HN:=Lib.hid (show numsF fa.name (.mk op s c n ks)=ks.flatMap (numsF fa.name) by rw[nums_mk,if_neg (fun h=>h3 h.1)];rfl);have h3b:(op==3)=false:=by simpa using h3
 have HS0:Hid (StC w0 R (l++(ks.take 0).flatMap (numsF fa.name)) (W.alloc (.cells #[.int .i64 op,.string s,.int .i64 c,.int .i64 n,.slice ao ks.length cap] 47))):=by{show StC _ _ _ _;have q:=hS.more ((Below.refl _ _).alloc (Nat.le_refl _) (.cells #[.int .i64 op,.string s,.int .i64 c,.int .i64 n,.slice ao ks.length cap] 47));simpa using q}
 have HK:=Lib.hid hk;have HE:=Lib.hid hE;have HIH:=Lib.hid IH;have HL:=Lib.hid hl;unfold maxLen at k2;have hWlt:W.heap.size<(W.alloc (.cells #[.int .i64 op,.string s,.int .i64 c,.int .i64 n,.slice ao ks.length cap] 47)).heap.size:=by simp
 clear hS hk hE IH hl h3;go_enter Tryz.func184,Tryz.ntmps184;go_wp2
 go_loopw [28] (fun iv wr=>∃(j:Nat),j<=ks.length/\ iv=.int .i64 j/\ Hid (StC w0 R (l++(ks.take j).flatMap (numsF fa.name)) wr)) (fun iv _=>ks.length-(intOf iv).toNat)
 case atStart=>exact⟨0,by omega,rfl,HS0⟩
 case round=>
  obtain⟨j,hj,rfl,hJ⟩:=hrel;clear HS0;by_cases hlt:j<ks.length
  ·obtain⟨kb,off,rfl,hkB,hL⟩:=HK.out (by intro e;rw[e]at hlt;simp at hlt)
   have hbw:=(hJ.out.below (by omega)).mono hB;obtain⟨ka,kc,c0,c1,c2,c3,c4,hKid⟩:=Fo.InL.get ks off j hlt hL;have d0:=(hbw.cell (p:=⟨kb,off+j*5,none⟩) hkB).trans c0;have d1:=(hbw.cell (p:=⟨kb,off+j*5+1,none⟩) hkB).trans c1;have d2:=(hbw.cell (p:=⟨kb,off+j*5+2,none⟩) hkB).trans c2;have d3:=(hbw.cell (p:=⟨kb,off+j*5+3,none⟩) hkB).trans c3;have d4:=(hbw.cell (p:=⟨kb,off+j*5+4,none⟩) hkB).trans c4;have hJ2:=hJ.out.more ((Below.refl wr.heap.size wr).alloc (Nat.le_refl _) (.cells #[.int .i64 ks[j].op,.string ks[j].name,.int .i64 ks[j].cmp,.int .i64 ks[j].n,.slice ka ks[j].kids.length kc] 47));have hfn:=(hJ2.blk HE.out.fn (by omega) (by omega)).cell 0
   have hlen:(l++(ks.take j).flatMap (numsF fa.name)).length+2*ks[j].size<=900000:=by{have q:=HL.out;rw[Fo.size]at q;have hh:∀(ks:List Fo) (j:Nat) (h:j<ks.length),((ks.take j).flatMap (numsF fa.name)).length+2*ks[j].size<=2*Fo.sizeL ks:=by{intro ks;induction ks with| nil=>intro j h;simp at h| cons k ks ih=>{intro j h;cases j with| zero=>rw[Fo.sizeL];simp;omega| succ j=>{have:=ih j (by simpa using h);have:=numsF_len fa.name k;rw[Fo.sizeL,List.take_succ_cons,List.flatMap_cons,List.length_append];simp only[List.getElem_cons_succ];omega}}};have:=hh ks j hlt;rw[List.length_append];omega}
   have HI:=Lib.hid (HIH.out ks[j] (List.getElem_mem _) _ _ _ hJ2 hKid hlen)
   have HSN:=Lib.hid (show l++(ks.take j).flatMap (numsF fa.name)++numsF fa.name ks[j]=l++(ks.take (j+1)).flatMap (numsF fa.name) by
    rw[List.take_succ_eq_append_getElem hlt,List.flatMap_append];simp)
   have hkb2:kb<wr.heap.size:=by have:=hJ.out.size;omega
   have hs2:=hJ2.size;clear hKid hL hbw hJ hJ2 hlen c0 c1 c2 c3 c4;go_wp2_with (go_at_call 184;refine HI.out.mono ?_;rintro e w5 ⟨rfl,h5⟩;have H5:=Lib.hid h5;clear h5);go_roundw
   case rel=>exact⟨j+1,by omega,by go_num,by rw[<-HSN.out];exact H5⟩
   case measure=>simp[intOf];omega
  {(obtain rfl:j=ks.length:=by omega);go_wp2;go_end0;rw[HN.out];have q:=hJ.out;rw[List.take_length]at q;exact⟨rfl,q⟩}
theorem nums_no (B:Nat)(w0:World)(FX R:Nat)(fa:Fa)(hE:EnvC w0 FX R fa)(_hB:B<=R)(c n:Int)(s:ByteArray)(he:eqB s fa.name=false):NumW B w0 FX R fa (.mk 3 s c n []):=by
 intro v l W hS hf hl;obtain⟨ao,cap,rfl,w1,w2,w3,w4,k1,k2,_⟩:=hf;have hsz:=hS.size;have hsR:=hE.size;have hfx:=hE.lt;have HN:=Lib.hid (show numsF fa.name (.mk 3 s c n [])=[] by rw[nums_mk,if_neg (by simp[he])];rfl);have e0:=(hS.blk hE.fact (by omega) (by omega)).cell 0;have he2:(s.toList==fa.name.toList)=false:=he;have HF:=Lib.hid (hS.more ((Below.refl _ _).alloc (Nat.le_refl _) (.cells #[.int .i64 3,.string s,.int .i64 c,.int .i64 n,.slice ao 0 cap] 47)));have hfxW:FX<W.heap.size:=by omega
 clear hS hE hl he;simp only[List.length_nil]at*
 go_enter Tryz.func184,Tryz.ntmps184;go_wp2
 go_rounds 1
 go_end0
 rw[HN.out,List.append_nil];exact⟨rfl,HF.out⟩
theorem two_new (w:World)(x y:Value)(t:TypeId)(b:Nat)(hb:w.heap.size=b):∀j u,[x,y][j]? =some u->(w.alloc (.cells #[x,y] t)).cell? ((⟨b,0,none⟩:Addr).add j)=some u:=by
 subst hb;intro j u hj;have:=(Blk.new w t #[x,y]).cell j;have e:(⟨w.heap.size,0,none⟩:Addr).add j=⟨w.heap.size,j,none⟩:=by simp[Addr.add];omega
 rw[e,this]
 simpa using hj
theorem nums_yes (B:Nat)(w0:World)(FX R:Nat)(fa:Fa)(hE:EnvC w0 FX R fa)(_hB:B<=R)(c n:Int)(s:ByteArray)(he:eqB s fa.name=true)(hn:0<=n/\ n<=1000000):NumW B w0 FX R fa (.mk 3 s c n []):=by
 intro v l W hS hf hl;obtain⟨ao,cap,rfl,w1,w2,w3,w4,k1,k2,_⟩:=hf;have hsz:=hS.size;have hsR:=hE.size;have hfx:=hE.lt;have HN:=Lib.hid (show numsF fa.name (.mk 3 s c n [])=[n,n+1] by rw[nums_mk,if_pos ⟨rfl,he⟩];rfl);have e0:=(hS.blk hE.fact (by omega) (by omega)).cell 0;have he2:(s.toList==fa.name.toList)=true:=he;have hfxW:FX<W.heap.size:=by omega
 have hS1:=hS.more ((Below.refl _ _).alloc (Nat.le_refl _) (.cells #[.int .i64 3,.string s,.int .i64 c,.int .i64 n,.slice ao 0 cap] 47));obtain⟨vo,hvb,hown,hvt⟩:=hS1.ord;obtain⟨va,vcap,hvs⟩:=own_len hown;have hne:=ord_ne hvb hown;have HP:=Lib.hid (fun(w7:World) (v7:Value) h7 hg hat=>hS1.push (w7:=w7) (v7:=v7) (o:=.cells #[iW n,iW (n+1)] 3) (x:=n) (y:=n+1) hsR hvb hown hvt h7 hg hat);subst hvs;have c4:=hvb.cell 0;have HOWN:=Lib.hid (hown.alloc (.cells #[iW n,iW (n+1)] 3));have HNE:=Lib.hid hne;have hbx:=(Blk.new W 47 #[.int .i64 3,.string s,.int .i64 c,.int .i64 n,.slice ao 0 cap]);have HNX:=Lib.hid (int_ne (by decide) hbx hown);have HBX:=Lib.hid (hbx.alloc (.cells #[iW n,iW (n+1)] 3));have HVB:=Lib.hid (hvb.alloc (.cells #[iW n,iW (n+1)] 3));have hln:l.length<=900000:=by omega
 obtain⟨i0,hi0,hz0,hz1,hz2⟩:=info_parts intInfo3;have hR1:R+1<W.heap.size:=by omega
 clear hS hE hl he hS1 hvb hown hvt hne hbx;simp only[List.length_nil]at*
 go_enter Tryz.func184,Tryz.ntmps184;go_wp2_with (at_builtin;refine wpList_append_own_at _ (by rfl) _ _ 26 (by rfl) R 3 i0 _ 1 8 Tryz.underlying26 hi0 hz0 hz1 hz2 rfl (by decide) _ l.length _ (by rfl) HOWN.out ⟨W.heap.size+1,0,none⟩ 2 2 [iW n,iW (n+1)] (by rfl) (by rfl) (two_new (W.alloc _) _ _ _ _ (World.size_alloc _ _)) (by intro u hu;simp at hu;rcases hu with rfl | rfl<;>rfl) (by unfold maxLen;omega) (by omega) (by simp;omega) ?_;intro v7 w7 hown7 hgrow7 hnil7 hat7;refine Hid.out ?_);refine Lib.hid ?_;have HF:=Lib.hid (HP.out w7 v7 hown7 hgrow7 hat7);have hb7:=HVB.out.grown hgrow7 (fun e=>HNE.out _ e.symm rfl);have c7:=hb7.cell 0;have z7:=hb7.frozen 0;obtain⟨va7,vcap7,hv7⟩:=own_len hown7;subst hv7;have hbx7:=HBX.out.grown hgrow7 (fun e=>HNX.out _ e.symm rfl);have x7:=(World.cell?_of_block (a:=⟨W.heap.size,4,none⟩) (Below.heap_setCell w7 ⟨R+1,0,none⟩ (.slice va7 (l.length+2) vcap7) W.heap.size (by show W.heap.size≠R+1;omega))).trans (hbx7.cell 4);clear hown7 hgrow7 hnil7 hat7 hb7 hbx7;go_wp2
 go_rounds 1
 go_end0
 rw[HN.out];exact⟨rfl,HF.out⟩
theorem nums_any (d:List Fa)(B:Nat)(w0:World)(FX R:Nat)(fa:Fa)(hE:EnvC w0 FX R fa)(hB:B<=R):∀(N:Nat) (f:Fo),f.size<=N->WfF d f->NumW B w0 FX R fa f:=by
 intro N
 induction N with
 | zero=>intro f h;obtain⟨op,s,c,n,ks⟩:=f;rw[Fo.size]at h;omega
 | succ N ih=>
  intro f h hw;obtain⟨op,s,c,n,ks⟩:=f;have hk:=size_kid op c n s ks;rw[WfF]at hw;rcases hw with⟨h1,rfl,rfl,rfl,rfl⟩ | ⟨rfl,_,h2,_,_,rfl⟩ | ⟨h1,rfl,rfl,rfl,h2⟩
  {exact nums_other B w0 FX R fa hE hB op 0 0 nilB [] (by omega) (by simp)}
  ·cases he:eqB s fa.name with
   | false=>exact nums_no B w0 FX R fa hE hB c n s he
   | true=>exact nums_yes B w0 FX R fa hE hB c n s he h2
  {exact nums_other B w0 FX R fa hE hB op 0 0 nilB ks (by omega) (fun k hm=>ih k (by have:=hk k hm;omega) ((WfL_iff d ks).1 h2 k hm))}
end Go.Proofs.YtihniipjfdenbaaGreatDoor
