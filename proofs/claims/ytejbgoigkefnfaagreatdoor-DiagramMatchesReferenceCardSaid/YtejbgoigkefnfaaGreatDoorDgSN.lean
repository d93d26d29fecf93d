/- The walk of the closure of diagram.starts that gathers the numbers of a fact's tests. A bound on the formula's size. -/
import Derived.Test.YtejbgoigkefnfaaGreatDoorAl
import Derived.Test.YtejbgoigkefnfaaGreatDoorDgGJ
set_option maxRecDepth 100000
set_option maxHeartbeats 4000000
namespace Go.Proofs.YtejbgoigkefnfaaGreatDoor
section
open Go.RowKit
open Go.Sort (grow)
abbrev RM (B b:Nat)(bs:List UInt8)(w:World):Prop:=Lib.IsBuilderF 76 5 B b (Lib.byteCells bs) w
theorem Ho {B b:Nat}{bs:List UInt8}{w w':World}(h:RM B b bs w)(hb:Below w.heap.size w w'):RM B b bs w':=by
 have f:∀p,Lib.BuilderAtF 76 5 B b p (Lib.byteCells bs) w->Lib.BuilderAtF 76 5 B b p (Lib.byteCells bs) w':=by{rintro p ⟨h1,v,h2,h3,h4⟩;refine⟨h1,v,(hb.block b (je h2)).trans h2,⟨h3.1,h3.2.imp id ?_⟩,h4⟩;rintro⟨g,cap,cur,fz,e1,e2,e3,e4⟩;exact⟨g,cap,cur,fz,e1,e2,(hb.block g (je e3)).trans e3,e4⟩}
 exact h.imp (f _) (f _)
structure Lt (B b bx : Nat) (cs : Array Value) (bs : List UInt8) (w0 w : World) : Prop where
 X3:RM B b bs w
 jk:Below B w0 w
 oth:Lib.OthersKept 5 (some b) w0 w
 box:Bb w bx 24 cs
 ne:bx≠b
 ge:B<=w.heap.size
variable {B b bx : Nat} {cs : Array Value} {bs : List UInt8} {w0 w : World}
theorem UB {w w':World}{b:Nat}(hb:Below w.heap.size w w'):Lib.OthersKept 5 (some b) w w':=fun k _ h _ _=>(hb.block k (je h)).trans h
theorem Lt.below (h:Lt B b bx cs bs w0 w){w':World}(hb:Below w.heap.size w w'):Lt B b bx cs bs w0 w':=
 ⟨Ho h.X3 hb,h.jk.trans (hb.mono h.ge),h.oth.trans (UB hb),h.box.below hb,h.ne,by have:=hb.size;have:=h.ge;omega⟩
theorem Lt.more (h:Lt B b bx cs bs w0 w){w':World}{bs':List UInt8}(h1:RM B b bs' w')(h2:Below B w w')(h3:Lib.OthersKept 5 (some b) w w'):Lt B b bx cs bs' w0 w':=
 ⟨h1,h.jk.trans h2,h.oth.trans h3,h3 bx _ h.box (by have:=h.ne;simp[this]) (Hv pa),h.ne,by have:=h2.size;have:=h.ge;omega⟩
theorem Us (w:World)(k:Nat)(os:Array Obj):Below w.heap.size w (grow (w.drewN k) os):=
 (World.Za w.heap.size w k).trans ⟨rfl,rfl,rfl,by simp[grow],fun b hb=>by simp only[grow];rw[zg (by simpa using hb)]⟩
theorem Lt.itoa (h:Lt B b bx cs bs w0 w)(hT:Lib.TabBelow Tryz.prog B w0 "internal/strconv.uint64pow10" .u64 Lib.pow10Tab)(n:Int)(hn:yj n):
  Calls Tryz.prog 42 #[.int .i64 n] w fun e w'=>∃s:ByteArray,e=.returned (.string s)/\ Hid (Lt B b bx cs bs w0 w')/\ s.size<=21/\ Hid (s.toList=Lib.itoa n):=by
 refine(Tryz.strconv_Itoa n hn.1 hn.2 w (hT.on h.jk).here).mono ?_;rintro e w' ⟨rfl,k,os,rfl⟩;refine⟨_,rfl,h.below (Us w k os),?_,?_⟩
 {have:=Lib.itoa_length_le n hn.1 hn.2;simpa[ByteArray.size]using this}
 {show _=_;rw[Sc]}
theorem Lt.str (h:Lt B b bx cs bs w0 w)(s:ByteArray)(hl:bs.length+s.size<=100000000000):
  Calls Tryz.prog 89 #[.pointer (some ⟨b,0,none⟩),.string s] w fun e w'=>e=.returned (.tuple #[.int .i64 s.size,.nilIface])/\ Hid (Lt B b bx cs (bs++s.toList) w0 w'):=by
 refine(Tryz.Builder_WriteString_k B b _ s w h.X3 (by simp[Lib.byteCells];omega) h.ge).mono ?_;rintro e w' ⟨rfl,h1,h2,h3⟩;refine⟨rfl,h.more (.inr ?_) h2 h3⟩;rw[Lib.byteCells_append,Sc];exact h1
theorem Lt.byte (h:Lt B b bx cs bs w0 w)(c:UInt8)(hl:bs.length<=100000000000):
  Calls Tryz.prog 90 #[.pointer (some ⟨b,0,none⟩),.int .u8 c.toNat] w fun e w'=>e=.returned .nilIface/\ Hid (Lt B b bx cs (bs++[c]) w0 w'):=by
 refine(Tryz.Builder_WriteByte_k B b _ c.toNat w h.X3 (by simp[Lib.byteCells];omega) h.ge).mono ?_;rintro e w' ⟨rfl,h1,h2,h3⟩;refine⟨rfl,h.more (.inr ?_) h2 h3⟩;rw[Lib.byteCells_append];exact h1
theorem FN (op c n:Int)(nm:ByteArray)(h1:yj op)(h2:yj c)(h3:yj n)(h:nm.size<=24):(Lib.itoa op++nm.toList++44::Lib.itoa c++44::Lib.itoa n++[40]).length<=100:=by
 have a1:=Lib.itoa_length_le op h1.1 h1.2;have a2:=Lib.itoa_length_le c h2.1 h2.2;have a3:=Lib.itoa_length_le n h3.1 h3.2;have a4:nm.toList.length=nm.size:=by rw[Sc];rfl
 simp only[Ea,ib,Cc];omega
theorem Y3 {v0 v1 v2 v3 v4:Value}(h:Hid (Lt B b bx #[v0,v1,v2,v3,v4] bs w0 w)):w.cell? ⟨bx,0,none⟩=some v0/\ w.cell? ⟨bx,1,none⟩=some v1/\ w.cell? ⟨bx,2,none⟩=some v2/\ w.cell? ⟨bx,3,none⟩=some v3:=
 ⟨h.out.box.cell 0,h.out.box.cell 1,h.out.box.cell 2,h.out.box.cell 3⟩
theorem Lt.close (h:Lt B b bx cs bs w0 w)(hl:bs.length<=100000000000):
  Calls Tryz.prog 90 #[.pointer (some ⟨b,0,none⟩),.int .u8 41] w fun e w'=>e=.returned .nilIface/\ Hid (Lt B b bx cs (bs++[41]) w0 w'):=h.byte 41 hl
theorem Pl :∀ks:List Fo,we ks=ks.flatMap Wf
 | []=>rfl
 | k::ks=>by rw[we,jc,Pl ks]
theorem PF (ks:List Fo)(j:Nat)(h:j<ks.length):we (ks.take (j+1))=we (ks.take j)++Wf ks[j]:=by
 rw[Pl,Pl,Ka h,Pc]
 simp
theorem QF (ks:List Fo)(j:Nat):(we (ks.take j)).length<=(we ks).length:=by
 conv=>rhs;rw[<-sf j ks]
 rw[Pl,Pl,Pc,Ea];omega
def ln (op c n:Int)(nm:ByteArray):List UInt8:=Lib.itoa op++nm.toList++44::Lib.itoa c++44::Lib.itoa n++[40]
theorem head_eq {op c n:Int}{nm s1 s2 s3:ByteArray}(h1:Hid (s1.toList=Lib.itoa op))(h2:Hid (s2.toList=Lib.itoa c))(h3:Hid (s3.toList=Lib.itoa n)):
  (s1++nm++(⟨#[44]⟩:ByteArray)++s2++(⟨#[44]⟩:ByteArray)++s3++(⟨#[40]⟩:ByteArray)).toList=ln op c n nm:=by
 have ha:∀a b:ByteArray,(a++b).toList=a.toList++b.toList:=fun a b=>by simp[ByteArray.toList_eq]
 have e1:∀u:UInt8,(⟨#[u]⟩:ByteArray).toList=[u]:=fun u=>by rw[Sc]
 unfold ln;simp only[ha,e1,h1.out,h2.out,h3.out]
 simp
theorem ny (op c n:Int)(nm:ByteArray)(ks:List Fo):Wf (.mk op nm c n ks)=ln op c n nm++we ks++[41]:=by
 rw[Wf];unfold ln;simp
theorem EI (B b:Nat)(op c n:Int)(nm:ByteArray)(ks:List Fo)(hnm:nm.size<=24)
  (IH:∀k∈ks,∀(v:Value) (bs:List UInt8) (w:World),k.In w B v→RM B b bs w→Lib.TabBelow Tryz.prog B w "internal/strconv.uint64pow10" .u64 Lib.pow10Tab→B≤w.heap.size→bs.length+(Wf k).length≤1000000000→
   Calls Tryz.prog 41 #[.pointer (some ⟨b,0,none⟩),v] w fun e w'=>e=.returned (.tuple #[])/\ RM B b (bs++Wf k) w'/\ Below B w w'/\ Lib.OthersKept 5 (some b) w w')
  (v:Value) (bs:List UInt8) (w:World) (hf:(Fo.mk op nm c n ks).In w B v) (hb:RM B b bs w) (hT:Lib.TabBelow Tryz.prog B w "internal/strconv.uint64pow10" .u64 Lib.pow10Tab) (hB:B≤w.heap.size) (hl:bs.length+(Wf (.mk op nm c n ks)).length≤1000000000):
  Calls Tryz.prog 41 #[.pointer (some ⟨b,0,none⟩),v] w fun e w'=>e=.returned (.tuple #[])/\ RM B b (bs++Wf (.mk op nm c n ks)) w'/\ Below B w w'/\ Lib.OthersKept 5 (some b) w w':=by
 obtain⟨ao,cap,rfl,w1,w2,w3,w4,k1,k2,hk⟩:=hf;unfold maxLen at k2;have Zd:b<w.heap.size:=by rcases hb with h | h<;>exact h.lt
 have Lr:Hid (Lt B b w.heap.size #[.int .i64 op,.string nm,.int .i64 c,.int .i64 n,.slice ao ks.length cap] bs (w.alloc (.cells #[.int .i64 op,.string nm,.int .i64 c,.int .i64 n,.slice ao ks.length cap] 24)) (w.alloc (.cells #[.int .i64 op,.string nm,.int .i64 c,.int .i64 n,.slice ao ks.length cap] 24))):=
  ⟨Ho hb ((za _ _).alloc (ja _) _),za _ _,Lib.OthersKept.refl _ _ _,Bb.new _ _ _,ia,by simp;omega⟩
 have HT:=da (hT.on ((za _ _).alloc hB (.cells #[.int .i64 op,.string nm,.int .i64 c,.int .i64 n,.slice ao ks.length cap] 24)));have Gt:=da IH;have HK:=da hk;have HL:=da hl;have En:bs.length<=1000000000:=by omega
 have n0:=Lr.out.box.cell 0;have n1:=Lr.out.box.cell 1;have n2:=Lr.out.box.cell 2;have n3:=Lr.out.box.cell 3;clear hb hT IH hk hl;go_enter Tryz.func41,Tryz.ntmps41;go_upto_region 1 with(fail);have Z3:=da (Lr.out.below (w':=(w.alloc (.cells #[.int .i64 op,.string nm,.int .i64 c,.int .i64 n,.slice ao ks.length cap] 24)).drew) ((za _ _).drew));clear Lr
 have hM:=da (fun(wx:World) (s1 s2 s3:ByteArray) (h1:Hid (s1.toList=Lib.itoa op)) (h2:Hid (s2.toList=Lib.itoa c)) (h3:Hid (s3.toList=Lib.itoa n)) (h:Hid (Lt B b w.heap.size #[.int .i64 op,.string nm,.int .i64 c,.int .i64 n,.slice ao ks.length cap] (bs++(s1++nm++(⟨#[44]⟩:ByteArray)++s2++(⟨#[44]⟩:ByteArray)++s3++(⟨#[40]⟩:ByteArray)).toList) (w.alloc (.cells #[.int .i64 op,.string nm,.int .i64 c,.int .i64 n,.slice ao ks.length cap] 24)) wx))=>
  da (show Lt B b w.heap.size #[.int .i64 op,.string nm,.int .i64 c,.int .i64 n,.slice ao ks.length cap] (bs++ln op c n nm) (w.alloc (.cells #[.int .i64 op,.string nm,.int .i64 c,.int .i64 n,.slice ao ks.length cap] 24)) wx from by rw[<-head_eq h1 h2 h3];exact h.out))
 go_cut[] (fun wx=>Hid (Lt B b w.heap.size #[.int .i64 op,.string nm,.int .i64 c,.int .i64 n,.slice ao ks.length cap] (bs++ln op c n nm) (w.alloc (.cells #[.int .i64 op,.string nm,.int .i64 c,.int .i64 n,.slice ao ks.length cap] 24)) wx))
 case first=>(refine wp_region_held_drew (S:=(fun w':World=>w'.cell? ⟨w.heap.size,0,none⟩=some (.int .i64 op)/\ w'.cell? ⟨w.heap.size,1,none⟩=some (.string nm)/\ w'.cell? ⟨w.heap.size,2,none⟩=some (.int .i64 c)/\ w'.cell? ⟨w.heap.size,3,none⟩=some (.int .i64 n))) Ca (Y3 Z3) (fun Xb=>?_);refine tp 0 ?_;refine tp 1 ?_;refine tp 4 ?_;refine tp 8 ?_;refine tp 13 ?_;refine tk 2 ?v2 ?y2 ?_;(case y2=>(intro w9 Pg;obtain⟨y0,y1,y2,y3⟩:=Pg;go_simp;try with_reducible rfl));refine tk 5 ?v5 ?y5 ?_;(case y5=>(intro w9 Pg;obtain⟨y0,y1,y2,y3⟩:=Pg;go_simp;try with_reducible rfl));refine tk 9 ?v9 ?y9 ?_;(case y9=>(intro w9 Pg;obtain⟨y0,y1,y2,y3⟩:=Pg;go_simp;try with_reducible rfl));refine tk 14 ?v14 ?CB ?_;(case CB=>(intro w9 Pg;obtain⟨y0,y1,y2,y3⟩:=Pg;go_simp;try with_reducible rfl));refine tr 3 (fun K hK=>?_);(go_simp;go_at_call 42;refine(Lt.itoa Z3.out HT.out _ w1).mono ?_;rintro e w4 ⟨sI1,rfl,V8,ait,abm⟩);refine hK.out _ _ ?_ (fun Xb=>?_);{exact Y3 V8};clear hK K;(try simp only[Act.put,sA,sB,sC]);refine tk 6 ?v6 ?y6 ?_;(case y6=>(intro w9 _;go_simp;first | (rw[Aa (by(try simp only[Td]);have hz:∀u:UInt8,(ByteArray.mk #[u]).size=1:=fun _=>rfl;(try simp only[hz]);omega)]) | rfl));refine tk 7 ?v7 ?y7 ?_;(case y7=>(intro w9 _;go_simp;first | (rw[Aa (by(try simp only[Td]);have hz:∀u:UInt8,(ByteArray.mk #[u]).size=1:=fun _=>rfl;(try simp only[hz]);omega)]) | rfl));refine tr 10 (fun K hK=>?_);(go_simp;go_at_call 42;refine(Lt.itoa V8.out HT.out _ w2).mono ?_;rintro e w5 ⟨sI2,rfl,yU,aiu,abn⟩);refine hK.out _ _ ?_ (fun Xb=>?_);{exact Y3 yU};clear hK K;(try simp only[Act.put,sA,sB,sC]);refine tk 11 ?v11 ?y11 ?_;(case y11=>(intro w9 _;go_simp;first | (rw[Aa (by(try simp only[Td]);have hz:∀u:UInt8,(ByteArray.mk #[u]).size=1:=fun _=>rfl;(try simp only[hz]);omega)]) | rfl));refine tk 12 ?v12 ?y12 ?_;(case y12=>(intro w9 _;go_simp;first | (rw[Aa (by(try simp only[Td]);have hz:∀u:UInt8,(ByteArray.mk #[u]).size=1:=fun _=>rfl;(try simp only[hz]);omega)]) | rfl));refine tr 15 (fun K hK=>?_);(go_simp;go_at_call 42;refine(Lt.itoa yU.out HT.out _ w3).mono ?_;rintro e w6 ⟨sI3,rfl,XR,aix,abo⟩);refine hK.out _ _ ?_ (fun Xb=>?_);{exact Y3 XR};clear hK K;(try simp only[Act.put,sA,sB,sC]);refine tk 16 ?v16 ?EB ?_;(case EB=>(intro w9 _;go_simp;first | (rw[Aa (by(try simp only[Td]);have hz:∀u:UInt8,(ByteArray.mk #[u]).size=1:=fun _=>rfl;(try simp only[hz]);omega)]) | rfl));refine tk 17 ?v17 ?y17 ?_;(case y17=>(intro w9 _;go_simp;first | (rw[Aa (by(try simp only[Td]);have hz:∀u:UInt8,(ByteArray.mk #[u]).size=1:=fun _=>rfl;(try simp only[hz]);omega)]) | rfl));refine tr 18 (fun K hK=>?_);(go_simp;go_at_call 89;refine(Lt.str XR.out _ (by simp only[Td];have hz:∀u:UInt8,(ByteArray.mk #[u]).size=1:=fun _=>rfl;simp only[hz];omega)).mono ?_;rintro e w7 ⟨rfl,yN⟩);refine hK.out _ _ ?_ (fun Xb=>?_);{exact Y3 yN};clear hK K;(try simp only[Act.put,sA,sB,sC]);refine wpAnyH_done Ca ?_ _;skip;go_wp2;go_meet;case rel=>exact hM.out _ _ _ _ abm abn abo yN)
 case rest=>
  rename World=>wx
  have HS:=hcut;clear hcut hM;have aiz:=HS.out.ge;have g4:=HS.out.box.cell 4;have HW1:Hid (Below B w (w.alloc (.cells #[.int .i64 op,.string nm,.int .i64 c,.int .i64 n,.slice ao ks.length cap] 24))):=(za _ _).alloc hB _
  have YV:Hid (Lt B b w.heap.size #[.int .i64 op,.string nm,.int .i64 c,.int .i64 n,.slice ao ks.length cap] (bs++ln op c n nm++we (ks.take 0)) (w.alloc (.cells #[.int .i64 op,.string nm,.int .i64 c,.int .i64 n,.slice ao ks.length cap] 24)) wx):=by{show Lt _ _ _ _ _ _ _;have q:=HS.out;simpa[we]using q}
  have tU:=da (show bs.length+((ln op c n nm).length+(we ks).length+1)<=1000000000 by
   have q:=HL.out
   rw[ny]at q
   simp only[Ea,ib,Cc]at q
   omega)
  go_wp2
  go_loopw [28] (fun iv wr=>∃(j:Nat),j<=ks.length/\ iv=.int .i64 j/\ Hid (Lt B b w.heap.size #[.int .i64 op,.string nm,.int .i64 c,.int .i64 n,.slice ao ks.length cap] (bs++ln op c n nm++we (ks.take j)) (w.alloc (.cells #[.int .i64 op,.string nm,.int .i64 c,.int .i64 n,.slice ao ks.length cap] 24)) wr)) (fun iv _=>ks.length-(intOf iv).toNat)
  case atStart=>exact⟨0,ia,rfl,YV⟩
  case round=>
   obtain⟨j,hj,rfl,hJ⟩:=hrel;clear YV HS g4;have hge:=hJ.out.ge;by_cases hlt:j<ks.length
   ·obtain⟨kb,off,rfl,Ou,hL⟩:=HK.out (by intro e;rw[e]at hlt;simp at hlt)
    have gT:=HW1.out.trans hJ.out.jk;obtain⟨ka,kc,c0,c1,c2,c3,c4,Oq⟩:=Fo.Qk.get ks off j hlt (Fo.Qk.below gT Ou ks off hL);have Zp:=PF ks j hlt;have hst:=QF ks (j+1)
    have HI:=da (Gt.out ks[j] (Ga _) _ (bs++ln op c n nm++we (ks.take j)) (wr.alloc (.cells #[.int .i64 ks[j].op,.string ks[j].name,.int .i64 ks[j].cmp,.int .i64 ks[j].n,.slice ka ks[j].kids.length kc] 24))
     (Fo.In.below ((za _ _).alloc hge _) _ _ Oq) (Ho hJ.out.X3 ((za _ _).alloc (ja _) _)) (HT.out.on (hJ.out.jk.alloc hge _)) (by simp;omega) (by
      have q:=tU.out
      rw[Zp]at hst
      simp only[Ea]at hst⊢
      omega))
    have HJN:=da (fun(w5:World) (h1:RM B b ((bs++ln op c n nm++we (ks.take j))++Wf ks[j]) w5) (h2:Below B (wr.alloc (.cells #[.int .i64 ks[j].op,.string ks[j].name,.int .i64 ks[j].cmp,.int .i64 ks[j].n,.slice ka ks[j].kids.length kc] 24)) w5) (h3:Lib.OthersKept 5 (some b) (wr.alloc (.cells #[.int .i64 ks[j].op,.string ks[j].name,.int .i64 ks[j].cmp,.int .i64 ks[j].n,.slice ka ks[j].kids.length kc] 24)) w5)=>
     (hJ.out.below ((za wr.heap.size wr).alloc (ja _) (.cells #[.int .i64 ks[j].op,.string ks[j].name,.int .i64 ks[j].cmp,.int .i64 ks[j].n,.slice ka ks[j].kids.length kc] 24))).more (w':=w5) h1 h2 h3)
    have Rv:=da (show bs++ln op c n nm++we (ks.take j)++Wf ks[j]=bs++ln op c n nm++we (ks.take (j+1)) by rw[Zp];simp);have YH:kb<wr.heap.size:=by omega
    clear Oq hL gT hJ Zp hst;go_wp2_with (go_at_call 41;refine HI.out.mono ?_;rintro e w5 ⟨rfl,h1,h2,h3⟩;have H5:=da (HJN.out w5 h1 h2 h3);clear h1 h2 h3);go_roundw
    case rel=>exact⟨j+1,ia,by go_num,by rw[<-Rv.out];exact H5⟩
    case measure=>simp[intOf];omega
   {(obtain rfl:j=ks.length:=ia);have hlen:(bs++ln op c n nm++we (ks.take ks.length)).length<=100000000000:=by{have q:=tU.out;rw[Jb];simp only[Ea];omega};have HC:=da (hJ.out.close hlen);have HW2:=da (show Lib.OthersKept 5 (some b) w (w.alloc (.cells #[.int .i64 op,.string nm,.int .i64 c,.int .i64 n,.slice ao ks.length cap] 24))from UB ((za _ _).alloc (ja _) _));go_wp2_with (go_at_call 90;refine HC.out.mono ?_;rintro e w5 ⟨rfl,H5⟩);go_end0;refine⟨rfl,?_,HW1.out.trans H5.out.jk,HW2.out.trans H5.out.oth⟩;have q:=H5.out.X3;rw[Jb]at q;rw[ny];simpa using q}
theorem XA (d:List Fa)(B b:Nat):∀(N:Nat) (f:Fo),f.size≤N→Kj d f→∀(v:Value) (bs:List UInt8) (w:World),f.In w B v→RM B b bs w→Lib.TabBelow Tryz.prog B w "internal/strconv.uint64pow10" .u64 Lib.pow10Tab→B≤w.heap.size→bs.length+(Wf f).length≤1000000000→
   Calls Tryz.prog 41 #[.pointer (some ⟨b,0,none⟩),v] w fun e w'=>e=.returned (.tuple #[])/\ RM B b (bs++Wf f) w'/\ Below B w w'/\ Lib.OthersKept 5 (some b) w w':=by
 intro N
 induction N with| zero=>intro f h;obtain⟨op,s,c,n,ks⟩:=f;rw[Fo.size]at h;omega| succ N ih=>{intro f h hw v bs w hf hb hT hB hl;obtain⟨op,s,c,n,ks⟩:=f;have hk:=Ak op c n s ks;rw[Kj]at hw;have hs:s.size<=24:=by{(rcases hw with⟨_,rfl,_⟩ | ⟨_,_,_,h1,_⟩ | ⟨_,rfl,_⟩);{decide};{unfold Hd at h1;simp only[ub,decide_eq_true_eq]at h1;exact h1.2};{decide}};refine EI B b op c n s ks hs (fun k hm=>ih k (by have:=hk k hm;omega) ?_) v bs w hf hb hT hB hl;(rcases hw with⟨_,_,_,_,rfl⟩ | ⟨_,_,_,_,_,rfl⟩ | ⟨_,_,_,_,h2⟩);{cases hm};{cases hm};{exact(si d ks).1 h2 k hm}}
end
open Go.RowKit
structure fH (w0 : World) (R : Nat) (l : List Int) (W : World) : Prop where
 os:W.os=w0.os
 tape:W.tape=w0.tape
 output:W.output=w0.output
 size:w0.heap.size<=W.heap.size
 old:∀b,b<w0.heap.size->b≠R->b≠R+1->W.heap[b]? =w0.heap[b]?
 ord:∃v,Bb W (R+1) 28 #[v]/\ W.ownsRow R 3 1 v l.length (l.map iW)/\ ∀g,v.ownBlock=some g->g=R\/w0.heap.size<=g
structure lP (w0 : World) (FX R : Nat) (fa : Fa) : Prop where
 fact:Bb w0 FX 83 #[.string fa.name,.int .i64 fa.kind,.int .i64 fa.lo,.int .i64 fa.hi]
 fn:Bb w0 (R+2) 131 #[(.func (.func 92) #[] #[.pointer (some ⟨FX,0,none⟩),.pointer (some ⟨R+1,0,none⟩),.pointer (some ⟨R+2,0,none⟩)])]
 lt:FX<R
 size:R+3<=w0.heap.size
theorem fH.below {w0 W:World}{R:Nat}{l:List Int}(h:fH w0 R l W)(hs:R<=w0.heap.size):Below R w0 W:=⟨h.os,h.tape,h.output,h.size,fun b hb=>h.old b ia ia ia⟩
theorem fH.blk {w0 W:World}{R:Nat}{l:List Int}(h:fH w0 R l W){b:Nat}{t:TypeId}{cs:Array Value}(hb:Bb w0 b t cs)(h1:b≠R)(h2:b≠R+1):Bb W b t cs:=(h.old b hb.lt h1 h2).trans hb
theorem fH.more {w0 W W':World}{R:Nat}{l:List Int}(h:fH w0 R l W)(hb:Below W.heap.size W W'):fH w0 R l W':=by
 obtain⟨v,h1,h2,h3⟩:=h.ord;exact⟨hb.os.trans h.os,hb.tape.trans h.tape,hb.output.trans h.output,Wa h.size hb.size,fun b q1 q2 q3=>(hb.block b (by have:=h.size;omega)).trans (h.old b q1 q2 q3),v,h1.below hb,Nd h2 hb,h3⟩
theorem int_ne {W:World}{b base t n:Nat}{cs:Array Value}{xs:List Value}{v:Value}(ht:t≠3)(hv:Bb W b t cs)(hown:W.ownsRow base 3 1 v n xs):∀g,v.ownBlock=some g->g≠b:=fun g e=>by
 rcases hown.2 with⟨rfl,_⟩ | ⟨g',cap,cur,rfl,_,LV,_⟩
 {cases e}
 {(have:g'=g:=by simpa[Value.ownBlock]using e);subst this;rintro rfl;have hv':W.heap[g']? =some (.cells cs t):=hv;rw[LV]at hv';injection hv' with hv';injection hv' with _ h _;exact ht h.symm}
theorem FI {W:World}{R base:Nat}{l:List Int}{v:Value}(hv:Bb W (R+1) 28 #[v])(hown:W.ownsRow base 3 1 v l.length (l.map iW)):∀g,v.ownBlock=some g->g≠R+1:=int_ne pa hv hown
theorem fH.push {w0 W w7:World}{R:Nat}{l:List Int}{v v7:Value}{o:Obj}{x y:Int}(h:fH w0 R l W)(hsz:R+3<=w0.heap.size)(hv:Bb W (R+1) 28 #[v])(hown:W.ownsRow R 3 1 v l.length (l.map iW))(ht:∀g,v.ownBlock=some g->g=R\/w0.heap.size<=g)
  (h7:w7.ownsRow R 3 1 v7 (l.length+2) (l.map iW++[iW x,iW y])) (hg:(W.alloc o).grownBy w7 v.ownBlock) (hat:v7.ownBlock=v.ownBlock\/v7.ownBlock=some (W.alloc o).heap.size):fH w0 R (l++[x,y]) (w7.setCell ⟨R+1,0,none⟩ v7):=by
 have hs:=h.size;have XV:=hg.size;rw[Ba]at XV hat;have hne:=FI hv hown
 have hb:∀b,b<W.heap.size->(∀g,v.ownBlock=some g->b≠g)->w7.heap[b]? =W.heap[b]? :=fun b h1 h2=>by{rw[hg.block b (by simp;omega) (fun e=>h2 b e.symm rfl),Tb _ _ _ h1]}
 refine⟨hg.os.trans h.os,hg.tape.trans h.tape,hg.output.trans h.output,by simp;omega,fun b q1 q2 q3=>?_,v7,?_,?_,fun g e=>?_⟩
 {rw[Gc _ _ _ b q3,hb b ia (fun g e=>by rcases ht g e with r | r<;>omega),h.old b q1 q2 q3]}
 {exact Bb.set (cs:=#[v]) ((hb (R+1) ia (fun g e=>(hne g e).symm)).trans hv) 0 v7}
 {rw[Ea,Lb];(refine Kf h7 _ _ fun g e=>?_);show g≠R+1;(rcases hat with q | q);{exact hne g (by rw[<-q];exact e)};{rw[q]at e;cases e;omega}}
 {(rcases hat with q | q);{exact ht g (by rw[<-q];exact e)};{rw[q]at e;cases e;right;omega}}
theorem jD (nm:ByteArray)(op c n:Int)(s:ByteArray)(ks:List Fo):uh nm (.mk op s c n ks)=(if op=3/\ Ni s nm=true then[n,n+1]else[])++ks.flatMap (uh nm):=by
 have hL:∀ks:List Fo,((qd ks).filter fun t=>Ni t.1 nm).flatMap (fun t=>[t.2.2,t.2.2+1])=ks.flatMap (uh nm):=by{intro ks;induction ks with| nil=>simp[qd]| cons k ks ih=>rw[qd,Xf,Pc,ih,jc];rfl}
 unfold uh;rw[jd,Xf,Pc,hL];congr 1
 by_cases h:op=3
 {simp only[h,if_true,true_and,Qh,List.filter_nil];cases Ni s nm<;>simp}
 {simp[h]}
theorem Cv :∀(N:Nat) (f:Fo),f.size<=N->(jd f).length<=f.size:=by
 intro N
 induction N with| zero=>intro f h;obtain⟨op,s,c,n,ks⟩:=f;rw[Fo.size]at h;omega| succ N ih=>{intro f h;obtain⟨op,s,c,n,ks⟩:=f;rw[Fo.size]at h⊢;have:∀ks:List Fo,Fo.Tc ks<=N->(qd ks).length<=Fo.Tc ks:=by{intro ks;induction ks with| nil=>intro _;simp[qd]| cons k ks ihk=>{intro hk;rw[Fo.Tc]at hk⊢;rw[qd,Ea];have:=ih k ia;have:=ihk ia;omega}};have:=this ks ia;rw[jd,Ea];split<;>simp only[ib,Cc]<;>omega}
theorem Zu (nm:ByteArray)(f:Fo):(uh nm f).length<=2*f.size:=by
 have h1:=Cv f.size f (ja _)
 have h2:∀l:List (ByteArray×Int×Int),(l.flatMap fun t=>[t.2.2,t.2.2+1]).length=2*l.length:=by{intro l;induction l with| nil=>rfl| cons a l ih=>rw[jc,Ea,ih];simp;omega}
 unfold uh;rw[h2];have:=tf (fun t=>Ni t.1 nm) (jd f);omega
abbrev mP (B:Nat)(w0:World)(FX R:Nat)(fa:Fa)(f:Fo):Prop:=
 ∀(v:Value) (l:List Int) (W:World),fH w0 R l W->f.In w0 B v->l.length+2*f.size<=900000->
  Calls Tryz.prog 92 #[v,.pointer (some ⟨FX,0,none⟩),.pointer (some ⟨R+1,0,none⟩),.pointer (some ⟨R+2,0,none⟩)] W fun e W'=>e=.returned (.tuple #[])/\ fH w0 R (l++uh fa.name f) W'
theorem oz (B:Nat)(w0:World)(FX R:Nat)(fa:Fa)(hE:lP w0 FX R fa)(hB:B<=R)(op c n:Int)(s:ByteArray)(ks:List Fo)(h3:op≠3)(IH:∀k∈ks,mP B w0 FX R fa k):mP B w0 FX R fa (.mk op s c n ks):=by
 intro v l W hS hf hl;obtain⟨ao,cap,rfl,w1,w2,w3,w4,k1,k2,hk⟩:=hf;have hsz:=hS.size;have hsR:=hE.size;have dX:=hE.lt;have HN:=da (show uh fa.name (.mk op s c n ks)=ks.flatMap (uh fa.name) by rw[jD,Aa (fun h=>h3 h.1)];rfl);have h3b:(op==3)=false:=by simpa using h3
 have Lr:Hid (fH w0 R (l++(ks.take 0).flatMap (uh fa.name)) (W.alloc (.cells #[.int .i64 op,.string s,.int .i64 c,.int .i64 n,.slice ao ks.length cap] 24))):=by{show fH _ _ _ _;have q:=hS.more ((za _ _).alloc (ja _) (.cells #[.int .i64 op,.string s,.int .i64 c,.int .i64 n,.slice ao ks.length cap] 24));simpa using q}
 have HK:=da hk;have HE:=da hE;have Gt:=da IH;have HL:=da hl;unfold maxLen at k2;have aiC:W.heap.size<(W.alloc (.cells #[.int .i64 op,.string s,.int .i64 c,.int .i64 n,.slice ao ks.length cap] 24)).heap.size:=by simp
 clear hS hk hE IH hl h3;go_enter Tryz.func92,Tryz.ntmps92;go_wp2
 go_loopw [28] (fun iv wr=>∃(j:Nat),j<=ks.length/\ iv=.int .i64 j/\ Hid (fH w0 R (l++(ks.take j).flatMap (uh fa.name)) wr)) (fun iv _=>ks.length-(intOf iv).toNat)
 case atStart=>exact⟨0,ia,rfl,Lr⟩
 case round=>
  obtain⟨j,hj,rfl,hJ⟩:=hrel;clear Lr;by_cases hlt:j<ks.length
  ·obtain⟨kb,off,rfl,Ou,hL⟩:=HK.out (by intro e;rw[e]at hlt;simp at hlt)
   have Zd:=(hJ.out.below ia).mono hB;obtain⟨ka,kc,c0,c1,c2,c3,c4,Oq⟩:=Fo.Qk.get ks off j hlt hL;have d0:=(Zd.cell (p:=⟨kb,off+j*5,none⟩) Ou).trans c0;have d1:=(Zd.cell (p:=⟨kb,off+j*5+1,none⟩) Ou).trans c1;have d2:=(Zd.cell (p:=⟨kb,off+j*5+2,none⟩) Ou).trans c2;have d3:=(Zd.cell (p:=⟨kb,off+j*5+3,none⟩) Ou).trans c3;have d4:=(Zd.cell (p:=⟨kb,off+j*5+4,none⟩) Ou).trans c4;have uV:=hJ.out.more ((za wr.heap.size wr).alloc (ja _) (.cells #[.int .i64 ks[j].op,.string ks[j].name,.int .i64 ks[j].cmp,.int .i64 ks[j].n,.slice ka ks[j].kids.length kc] 24));have j4:=(uV.blk HE.out.fn ia ia).cell 0
   have hlen:(l++(ks.take j).flatMap (uh fa.name)).length+2*ks[j].size<=900000:=by{have q:=HL.out;rw[Fo.size]at q;have hh:∀(ks:List Fo) (j:Nat) (h:j<ks.length),((ks.take j).flatMap (uh fa.name)).length+2*ks[j].size<=2*Fo.Tc ks:=by{intro ks;induction ks with| nil=>intro j h;simp at h| cons k ks ih=>{intro j h;cases j with| zero=>rw[Fo.Tc];simp;omega| succ j=>{have:=ih j (by simpa using h);have:=Zu fa.name k;rw[Fo.Tc,Zc,jc,Ea];simp only[Ic];omega}}};have:=hh ks j hlt;rw[Ea];omega}
   have HI:=da (Gt.out ks[j] (Ga _) _ _ _ uV Oq hlen)
   have Rv:=da (show l++(ks.take j).flatMap (uh fa.name)++uh fa.name ks[j]=l++(ks.take (j+1)).flatMap (uh fa.name) by
    rw[Ka hlt,Pc];simp)
   have YH:kb<wr.heap.size:=by have:=hJ.out.size;omega
   have qm:=uV.size;clear Oq hL Zd hJ uV hlen c0 c1 c2 c3 c4;go_wp2_with (go_at_call 92;refine HI.out.mono ?_;rintro e w5 ⟨rfl,h5⟩;have H5:=da h5;clear h5);go_roundw
   case rel=>exact⟨j+1,ia,by go_num,by rw[<-Rv.out];exact H5⟩
   case measure=>simp[intOf];omega
  {(obtain rfl:j=ks.length:=ia);go_wp2;go_end0;rw[HN.out];have q:=hJ.out;rw[Jb]at q;exact⟨rfl,q⟩}
theorem iT (B:Nat)(w0:World)(FX R:Nat)(fa:Fa)(hE:lP w0 FX R fa)(_hB:B<=R)(c n:Int)(s:ByteArray)(he:Ni s fa.name=false):mP B w0 FX R fa (.mk 3 s c n []):=by
 intro v l W hS hf hl;obtain⟨ao,cap,rfl,w1,w2,w3,w4,k1,k2,_⟩:=hf;have hsz:=hS.size;have hsR:=hE.size;have dX:=hE.lt;have HN:=da (show uh fa.name (.mk 3 s c n [])=[] by rw[jD,Aa (by simp[he])];rfl);have e0:=(hS.blk hE.fact ia ia).cell 0;have F_:(s.toList==fa.name.toList)=false:=he;have HF:=da (hS.more ((za _ _).alloc (ja _) (.cells #[.int .i64 3,.string s,.int .i64 c,.int .i64 n,.slice ao 0 cap] 24)));have abp:FX<W.heap.size:=by omega
 clear hS hE hl he;simp only[Cc]at*
 go_enter Tryz.func92,Tryz.ntmps92;go_wp2
 go_rounds 1
 go_end0
 rw[HN.out,Yc];exact⟨rfl,HF.out⟩
theorem jT (w:World)(x y:Value)(t:TypeId)(b:Nat)(hb:w.heap.size=b):∀j u,[x,y][j]? =some u->(w.alloc (.cells #[x,y] t)).cell? ((⟨b,0,none⟩:Addr).add j)=some u:=by
 subst hb;intro j u hj;have:=(Bb.new w t #[x,y]).cell j;have e:(⟨w.heap.size,0,none⟩:Addr).add j=⟨w.heap.size,j,none⟩:=by simp[Addr.add];omega
 rw[e,this]
 simpa using hj
theorem nP (B:Nat)(w0:World)(FX R:Nat)(fa:Fa)(hE:lP w0 FX R fa)(_hB:B<=R)(c n:Int)(s:ByteArray)(he:Ni s fa.name=true)(hn:0<=n/\ n<=1000000):mP B w0 FX R fa (.mk 3 s c n []):=by
 intro v l W hS hf hl;obtain⟨ao,cap,rfl,w1,w2,w3,w4,k1,k2,_⟩:=hf;have hsz:=hS.size;have hsR:=hE.size;have dX:=hE.lt;have HN:=da (show uh fa.name (.mk 3 s c n [])=[n,n+1] by rw[jD,if_pos ⟨rfl,he⟩];rfl);have e0:=(hS.blk hE.fact ia ia).cell 0;have F_:(s.toList==fa.name.toList)=true:=he;have abp:FX<W.heap.size:=by omega
 have Eo:=hS.more ((za _ _).alloc (ja _) (.cells #[.int .i64 3,.string s,.int .i64 c,.int .i64 n,.slice ao 0 cap] 24));obtain⟨vo,Hn,hown,E9⟩:=Eo.ord;obtain⟨va,zh,rR⟩:=Wd hown;have hne:=FI Hn hown;have HP:=da (fun(w7:World) (v7:Value) h7 hg hat=>Eo.push (w7:=w7) (v7:=v7) (o:=.cells #[iW n,iW (n+1)] 3) (x:=n) (y:=n+1) hsR Hn hown E9 h7 hg hat);subst rR;have c4:=Hn.cell 0;have Dk:=da (hown.alloc (.cells #[iW n,iW (n+1)] 3));have EA:=da hne;have jE:=(Bb.new W 24 #[.int .i64 3,.string s,.int .i64 c,.int .i64 n,.slice ao 0 cap]);have ax:=da (int_ne pa jE hown);have Nt:=da (jE.alloc (.cells #[iW n,iW (n+1)] 3));have Xw:=da (Hn.alloc (.cells #[iW n,iW (n+1)] 3));have tN:l.length<=900000:=by omega
 obtain⟨i0,hi0,hz0,hz1,hz2⟩:=info_parts Ij;have hR1:R+1<W.heap.size:=by omega
 clear hS hE hl he Eo Hn hown E9 hne jE;simp only[Cc]at*
 go_enter Tryz.func92,Tryz.ntmps92;go_wp2_with (at_builtin;refine wpList_append_own_at _ Ha _ _ 28 Ha R 3 i0 _ 1 8 Tryz.underlying28 hi0 hz0 hz1 hz2 rfl pa _ l.length _ Ha Dk.out ⟨W.heap.size+1,0,none⟩ 2 2 [iW n,iW (n+1)] Ha Ha (jT (W.alloc _) _ _ _ _ (Ba _ _)) (by intro u hu;simp at hu;rcases hu with rfl | rfl<;>rfl) (by unfold maxLen;omega) ia (by simp;omega) ?_;intro v7 w7 wo eo eF fF;refine Hid.out ?_);refine da ?_;have HF:=da (HP.out w7 v7 wo eo fF);have Cl:=Xw.out.grown eo (fun e=>EA.out _ e.symm rfl);have c7:=Cl.cell 0;have z7:=Cl.frozen 0;obtain⟨va7,B4,eX⟩:=Wd wo;subst eX;have C4:=Nt.out.grown eo (fun e=>ax.out _ e.symm rfl);have x7:=(World.cell?_of_block (a:=⟨W.heap.size,4,none⟩) (Gc w7 ⟨R+1,0,none⟩ (.slice va7 (l.length+2) B4) W.heap.size (by show W.heap.size≠R+1;omega))).trans (C4.cell 4);clear wo eo eF fF Cl C4;go_wp2
 go_rounds 1
 go_end0
 rw[HN.out];exact⟨rfl,HF.out⟩
theorem oP (d:List Fa)(B:Nat)(w0:World)(FX R:Nat)(fa:Fa)(hE:lP w0 FX R fa)(hB:B<=R):∀(N:Nat) (f:Fo),f.size<=N->Kj d f->mP B w0 FX R fa f:=by
 intro N
 induction N with
 | zero=>intro f h;obtain⟨op,s,c,n,ks⟩:=f;rw[Fo.size]at h;omega
 | succ N ih=>
  intro f h hw;obtain⟨op,s,c,n,ks⟩:=f;have hk:=Ak op c n s ks;rw[Kj]at hw;rcases hw with⟨h1,rfl,rfl,rfl,rfl⟩ | ⟨rfl,_,h2,_,_,rfl⟩ | ⟨h1,rfl,rfl,rfl,h2⟩
  {exact oz B w0 FX R fa hE hB op 0 0 qe [] ia la}
  ·cases he:Ni s fa.name with
   | false=>exact iT B w0 FX R fa hE hB c n s he
   | true=>exact nP B w0 FX R fa hE hB c n s he h2
  {exact oz B w0 FX R fa hE hB op 0 0 qe ks ia (fun k hm=>ih k (by have:=hk k hm;omega) ((si d ks).1 h2 k hm))}
end Go.Proofs.YtejbgoigkefnfaaGreatDoor
