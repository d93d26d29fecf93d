/- The walk of law15's head: the chapter's examples. No conditions. -/
import Derived.Test.YtmafmhlfjficmaaGreatDoorRkQA
import Derived.Test.YtmafmhlfjficmaaGreatDoorRkYA
import Derived.Test.YtmafmhlfjficmaaGreatDoorRkUA
namespace Go.Proofs.YtmafmhlfjficmaaGreatDoor
open Go.RowKit
theorem psH_proper :properL dH psH tsH.length=true:=by kernel_rfl
theorem condH_at (i:Nat)(h:i<5):condP psH i=condH i:=by
 match i,h with
 | 0,_=>rfl
 | 1,_=>rfl
 | 2,_=>rfl
 | 3,_=>rfl
 | 4,_=>rfl
theorem rankH_at (i:Nat)(h:i<5):rankP psH i=rankH i:=by
 match i,h with
 | 0,_=>rfl
 | 1,_=>rfl
 | 2,_=>rfl
 | 3,_=>rfl
 | 4,_=>rfl
theorem timeH_at (i:Nat):timeP tsH i=timeH i:=rfl
theorem whyD_H {a b:Nat}(ha:a<5)(hb:b<5):whyD dH (condP psH) (rankP psH) (timeP tsH) a b=whyH a b:=by
 unfold whyH whyD specD aloneD;rw[condH_at a ha,condH_at b hb,rankH_at a ha,rankH_at b hb,timeH_at,timeH_at]
theorem whyA_H {a b:Nat}(ha:a<5)(hb:b<5):whyA dH psH tsH (a:Int) (b:Int)=whyH a b:=by
 have hi:insideL psH a b=true:=by unfold insideL;simp[psH];omega
 unfold whyA;rw[if_pos ⟨psH_proper,hi⟩];exact whyD_H ha hb
theorem specA_H :specialA dH psH tsH 1 0=(true,0):=by
 have hi:insideL psH 1 0=true:=by decide
 have e:specD dH (condP psH) 1 0=specD dH condH 1 0:=by
  unfold specD aloneD;rw[condH_at 1 (by decide),condH_at 0 (by decide)]
 unfold specialA;rw[if_pos ⟨psH_proper,hi⟩,show(1:Int).toNat=1 from rfl,show(0:Int).toNat=0 from rfl,e,spec10,spec_err]
theorem beatsA_H :beatsA dH psH tsH 1 0=(false,0):=by
 unfold beatsA;rw[show whyA dH psH tsH 1 0=(0,0)from(whyA_H (a:=1) (b:=0) (by decide) (by decide)).trans why10]
 rfl
def idsC :List ByteArray:=[⟨#[101]⟩,⟨#[100]⟩,⟨#[99]⟩,⟨#[101]⟩]
def idsA :List ByteArray:=[⟨#[97]⟩,⟨#[98]⟩,⟨#[99]⟩,⟨#[100]⟩,⟨#[101]⟩]
def idsX :List ByteArray:=[⟨#[120]⟩]
theorem bestI_H {ids:List ByteArray}{l:List Nat}(h:∀i,i<5->askP psH ids i=askH l i)(hl:∀i,5<=i->askH l i=false):bestI dH psH tsH ids=bestW whyH (askH l) 5 (List.range 5) []:=by
 unfold bestI;refine bestW_congr (n:=5) (fun i=>?_) (fun a ha b hb=>whyD_H hb ha) _ _ (fun b hb=>List.mem_range.1 hb);by_cases hi:i<5
 ·exact h i hi
 ·rw[hl i (by omega)]
  unfold askP;rw[List.getElem?_eq_none (by show 5<=i;omega)]
theorem askH_no {l:List Nat}(h:∀x∈l,x<5)(i:Nat)(hi:5<=i):askH l i=false:=by
 unfold askH;rw[Bool.eq_false_iff];intro e;have:=h i (by simpa using e);omega
theorem bestA_C :bestA dH psH tsH idsC=([⟨#[100]⟩,⟨#[101]⟩],0):=by
 have e:bestI dH psH tsH idsC=([3,4],0):=by
  rw[bestI_H (l:=[4,3,2,4]) (fun i hi=>?_) (askH_no (by decide)),best_cde]
  match i,hi with
  | 0,_=>decide+kernel
  | 1,_=>decide+kernel
  | 2,_=>decide+kernel
  | 3,_=>decide+kernel
  | 4,_=>decide+kernel
 unfold bestA;rw[if_pos psH_proper,if_pos (by decide+kernel),e];rfl
theorem bestA_A :bestA dH psH tsH idsA=([⟨#[97]⟩],0):=by
 have e:bestI dH psH tsH idsA=([0],0):=by
  rw[bestI_H (l:=[0,1,2,3,4]) (fun i hi=>?_) (askH_no (by decide)),best_all5]
  match i,hi with
  | 0,_=>decide+kernel
  | 1,_=>decide+kernel
  | 2,_=>decide+kernel
  | 3,_=>decide+kernel
  | 4,_=>decide+kernel
 unfold bestA;rw[if_pos psH_proper,if_pos (by decide+kernel),e];rfl
theorem bestA_X :bestA dH psH tsH idsX=([],11):=by
 unfold bestA;rw[if_pos psH_proper,if_neg (by decide+kernel)]
theorem strs_new {w:World}{l:List ByteArray}{n:Nat}(hn:l.length=n)(_:l≠[])(hm:l.length<=1000):StrsIn (w.alloc (.cells (l.map Value.string).toArray 9)) (w.alloc (.cells (l.map Value.string).toArray 9)).heap.size l (.slice (some ⟨w.heap.size,0,none⟩) n n):=by
 subst hn;refine⟨_,_,rfl,Nat.le_refl _,by unfold maxLen;omega,fun _=>⟨w.heap.size,0,rfl,by simp,fun i hi=>?_⟩⟩;have:=(Blk.new w 9 (l.map Value.string).toArray).cell (0+i*1)
 show _=some (Value.string l[i])
 rw[this];simp[hi]
theorem psH_size :∀p∈psH,p.cond.size<=1000000:=by
 intro p hp;simp only[psH,List.mem_cons,List.not_mem_nil,or_false]at hp;rcases hp with rfl | rfl | rfl | rfl | rfl<;>decide
theorem strs_step {w w':World}{l:List ByteArray}{v:Value}(h:Hid (StrsIn w w.heap.size l v))(hb:Below w.heap.size w w'):Hid (StrsIn w' w'.heap.size l v):=SlIn.mono (OneR.mono _) hb.size (SlIn.below (OneR.kept _) hb h.out)
theorem same_new {w:World}{l m:List ByteArray}{v:Value}(h:Hid (StrsIn w w.heap.size l v))(n:Nat)(hn:m.length=n)(hne:m≠[])(hm:m.length<=1000)(hs:sameB l m=true):
  Calls Tryz.prog 20 #[v,.slice (some ⟨w.heap.size,0,none⟩) n n] (w.alloc (.cells (m.map Value.string).toArray 9)) fun e w'=>e=.returned (.bool true)/\ Hid (Below w.heap.size w w'):=by
 have hb:Below w.heap.size w (w.alloc (.cells (m.map Value.string).toArray 9)):=(Below.refl _ _).alloc (Nat.le_refl _) _;refine(same_any l m v _ _ _ (strs_step h hb).out (strs_new hn hne hm)).mono ?_;rintro e w' ⟨rfl,n,rfl⟩;rw[hs];exact⟨rfl,hb.trans (World.drewN_below _ _ _)⟩
structure HdL (w W : World) (b : Nat) (v : Value) (cs : Array Value) : Prop where
 box:Blk W b 28 cs
 law:LawT W W.heap.size dH psH tsH v
 tab:TabH W.heap.size W
 low:Below w.heap.size w W
theorem HdL.step {w W W':World}{b:Nat}{v:Value}{cs:Array Value}(h:HdL w W b v cs)(hb:Below W.heap.size W W'):HdL w W' b v cs:=
 ⟨h.box.below hb,(h.law.below hb).mono hb.size,fun w' h'=>h.tab w' (hb.trans (h'.mono hb.size)),h.low.trans (hb.mono h.low.size)⟩
variable {w W : World} {b : Nat} {v : Value} {cs : Array Value}
theorem hdl_why (h:Hid (HdL w W b v cs))(i j:Nat)(hi:i<5)(hj:j<5){x:Int}(hx:whyH i j=(x,0)){i' j':Int}(hi':(i:Int)=i')(hj':(j:Int)=j'):Calls Tryz.prog 14 #[v,.int .i64 i',.int .i64 j'] W fun e W'=>e=.returned (.tuple #[.int .i64 x,.int .i64 0])/\ Hid (HdL w W' b v cs):=by
 subst hi' hj';refine(why_any dH psH tsH i j v W (by decide) h.out.law psH_size h.out.tab).mono ?_;rintro e w' ⟨rfl,hb⟩;rw[whyA_H hi hj,hx];exact⟨rfl,h.out.step hb⟩
theorem hdl_spec (h:Hid (HdL w W b v cs)):Calls Tryz.prog 12 #[v,.int .i64 1,.int .i64 0] W fun e W'=>e=.returned (.tuple #[.bool true,.int .i64 0])/\ Hid (HdL w W' b v cs):=by
 refine(special_any dH psH tsH 1 0 v W (by decide) h.out.law psH_size h.out.tab).mono ?_;rintro e w' ⟨rfl,hb⟩;rw[specA_H];exact⟨rfl,h.out.step hb⟩
theorem hdl_beats (h:Hid (HdL w W b v cs)):Calls Tryz.prog 16 #[v,.int .i64 1,.int .i64 0] W fun e W'=>e=.returned (.tuple #[.bool false,.int .i64 0])/\ Hid (HdL w W' b v cs):=by
 refine(beats_any dH psH tsH 1 0 v W (by decide) h.out.law psH_size h.out.tab).mono ?_;rintro e w' ⟨rfl,hb⟩;rw[beatsA_H];exact⟨rfl,h.out.step hb⟩
theorem hdl_best (h:Hid (HdL w W b v cs)){ids out:List ByteArray}{er:Int}(hx:bestA dH psH tsH ids=(out,er))(n:Nat)(hn:ids.length=n)(hne:ids≠[])(hm:ids.length<=1000):
  Calls Tryz.prog 18 #[v,.slice (some ⟨W.heap.size,0,none⟩) n n] (W.alloc (.cells (ids.map Value.string).toArray 9)) fun e W'=>∃(a:Option Addr) (c:Nat),e=.returned (.tuple #[.slice a out.length c,.int .i64 er])/\ Hid (HdL w W' b v cs)/\ Hid (StrsIn W' W'.heap.size out (.slice a out.length c))/\ Hid (Below W.heap.size W W'):=by
 have hb:Below W.heap.size W (W.alloc (.cells (ids.map Value.string).toArray 9)):=(Below.refl _ _).alloc (Nat.le_refl _) _;have h2:=h.out.step hb;refine(best_any dH psH tsH ids v _ _ (by decide) h2.law (strs_new hn hne hm) psH_size h2.tab).mono ?_;rintro e w' ⟨x,rfl,hb',hs⟩;rw[hx]at hs⊢;obtain⟨a,c,rfl,_⟩:=SlIn.shape hs;exact⟨a,c,rfl,h2.step hb',hs,hb.trans (hb'.mono hb.size)⟩
set_option maxRecDepth 100000 in
set_option maxHeartbeats 4000000 in
theorem head15_any (w:World)(hT:TabH w.heap.size w):Calls Tryz.prog 9 #[] w fun e w'=>e=.returned (.bool true)/\ Below w.heap.size w w':=by
 have HT:=Lib.hid hT;clear hT;go_enter Tryz.func9,Tryz.ntmps9;go_upto_region 2 with(go_at_call 28;refine(sample_any _).mono ?_;rintro e w1 ⟨v,rfl,hb1,hl1⟩;have HL1:=Lib.hid hl1;obtain⟨u1,u2,u3,rfl,hd,hp,ht⟩:=hl1;obtain⟨ad,cd,rfl,_⟩:=SlIn.shape hd;obtain⟨ap,cp,rfl,_⟩:=SlIn.shape hp;obtain⟨at_,ct,rfl,_⟩:=SlIn.shape ht;have HB1:=Lib.hid hb1;clear hd hp ht hb1);have hbn:Below w1.heap.size w1 (w1.alloc (.cells #[.slice ad dH.length cd,.slice ap psH.length cp,.slice at_ tsH.length ct] 28)):=(Below.refl _ _).alloc (Nat.le_refl _) _;have hbw:=HB1.out.trans (hbn.mono HB1.out.size);have HL:Hid (HdL w (w1.alloc (.cells #[.slice ad dH.length cd,.slice ap psH.length cp,.slice at_ tsH.length ct] 28)) w1.heap.size (.agg #[.slice ad dH.length cd,.slice ap psH.length cp,.slice at_ tsH.length ct]) #[.slice ad dH.length cd,.slice ap psH.length cp,.slice at_ tsH.length ct]):=⟨Blk.new w1 _ _,(HL1.out.below hbn).mono hbn.size,fun w' h'=>HT.out w' (hbw.trans (h'.mono hbw.size)),hbw⟩;clear hbn hbw HL1 HT HB1;generalize w1.alloc (.cells #[.slice ad dH.length cd,.slice ap psH.length cp,.slice at_ tsH.length ct] 28)=W at*
 (have y0:=HL.out.box.cell 0;have y1:=HL.out.box.cell 1;have y2:=HL.out.box.cell 2)
 go_upto_region 3 with(go_at_call 14;refine(hdl_why HL 0 1 (by decide) (by decide) why01 rfl rfl).mono ?_;rintro e w2 ⟨rfl,HL2⟩;clear y0 y1 y2;have HL:=HL2;clear HL2;(have y0:=HL.out.box.cell 0;have y1:=HL.out.box.cell 1;have y2:=HL.out.box.cell 2));go_upto_region 4 with(go_at_call 14;refine(hdl_why HL 1 2 (by decide) (by decide) why12 rfl rfl).mono ?_;rintro e w2 ⟨rfl,HL2⟩;clear y0 y1 y2;have HL:=HL2;clear HL2;(have y0:=HL.out.box.cell 0;have y1:=HL.out.box.cell 1;have y2:=HL.out.box.cell 2));go_upto_region 5 with(go_at_call 14;refine(hdl_why HL 3 2 (by decide) (by decide) why32 rfl rfl).mono ?_;rintro e w2 ⟨rfl,HL2⟩;clear y0 y1 y2;have HL:=HL2;clear HL2;(have y0:=HL.out.box.cell 0;have y1:=HL.out.box.cell 1;have y2:=HL.out.box.cell 2));go_upto_region 6 with(go_at_call 14;refine(hdl_why HL 4 2 (by decide) (by decide) why42 rfl rfl).mono ?_;rintro e w2 ⟨rfl,HL2⟩;clear y0 y1 y2;have HL:=HL2;clear HL2;(have y0:=HL.out.box.cell 0;have y1:=HL.out.box.cell 1;have y2:=HL.out.box.cell 2));go_upto_region 7 with(go_at_call 12;refine(hdl_spec HL).mono ?_;rintro e w2 ⟨rfl,HL2⟩;clear y0 y1 y2;have HL:=HL2;clear HL2;(have y0:=HL.out.box.cell 0;have y1:=HL.out.box.cell 1;have y2:=HL.out.box.cell 2));go_upto_region 8 with(go_at_call 16;refine(hdl_beats HL).mono ?_;rintro e w2 ⟨rfl,HL2⟩;clear y0 y1 y2;have HL:=HL2;clear HL2;(have y0:=HL.out.box.cell 0;have y1:=HL.out.box.cell 1;have y2:=HL.out.box.cell 2));go_upto_region 9 with(go_at_call 18;refine(hdl_best HL bestA_C 4 rfl (by decide) (by decide)).mono ?_;rintro e w8 ⟨a8,c8,rfl,HL2,HS8,HB8⟩;clear y0 y1 y2;have HL:=HL2;clear HL2;(have y0:=HL.out.box.cell 0;have y1:=HL.out.box.cell 1;have y2:=HL.out.box.cell 2));go_upto_region 10 with(go_at_call 18;refine(hdl_best HL bestA_A 5 rfl (by decide) (by decide)).mono ?_;rintro e w9 ⟨a9,c9,rfl,HL2,HS9,HB9⟩;clear y0 y1 y2;have HL:=HL2;clear HL2;(have y0:=HL.out.box.cell 0;have y1:=HL.out.box.cell 1;have y2:=HL.out.box.cell 2));go_upto_region 11 with(go_at_call 18;refine(hdl_best HL bestA_X 1 rfl (by decide) (by decide)).mono ?_;rintro e w10 ⟨a10,c10,rfl,HL2,HS10,HB10⟩;clear y0 y1 y2;have HL:=HL2;clear HL2;(have y0:=HL.out.box.cell 0;have y1:=HL.out.box.cell 1;have y2:=HL.out.box.cell 2));have HS8':=strs_step (strs_step HS8 HB9.out) HB10.out;have HS9':=strs_step HS9 HB10.out;clear HS8 HS9 HS10 HB8 HB9 HB10
 go_wp2_with (first
  | (go_at_call_of 20 a8;refine(same_new (m:=[⟨#[100]⟩,⟨#[101]⟩]) HS8' 2 rfl (by decide) (by decide) (by decide+kernel)).mono ?_;rintro e w11 ⟨rfl,HB11⟩;have HS9':=strs_step HS9' HB11.out)
  | (go_at_call_of 20 a9;refine(same_new (m:=[⟨#[97]⟩]) HS9' 1 rfl (by decide) (by decide) (by decide+kernel)).mono ?_;rintro e w12 ⟨rfl,HB12⟩))
 go_ret;exact⟨by first | rfl | simp,HL.out.low.trans ((HB11.out.trans (HB12.out.mono HB11.out.size)).mono HL.out.low.size)⟩
end Go.Proofs.YtmafmhlfjficmaaGreatDoor
