/- The walks of regime.ids, of Analyse's closures, and of report. A bound on the number of rules. -/
import Derived.Test.YtihniipjfdenbaaGreatDoorRgDA
import Derived.Test.YtihniipjfdenbaaGreatDoorRgSA
set_option maxRecDepth 100000
set_option maxHeartbeats 4000000
namespace Go.Proofs.YtihniipjfdenbaaGreatDoor
open Go.RowKit
theorem AnQ.belowR {d:List Fa}{A:Nat}{ad:Option Addr}{cd:Nat}{st:List Dn×Int}{W W1 W2:World}{v:Value}(h:AnQ d A ad cd st W W1 v)(hb:Below W1.heap.size W1 W2):AnQ d A ad cd st W W2 v:=
 ⟨h.step.trans (AnStp.of_below hb),fun hz=>(h.same hz).trans (hb.mono (h.same hz).size),h.box.below hb,fun hz=>((h.dg hz).below hb).mono hb.size,h.any.below hb⟩
theorem AnQ.len {d:List Fa}{A:Nat}{ad:Option Addr}{cd:Nat}{st:List Dn×Int}{W W1:World}{a:Option Addr}{n c:Nat}(_:AnQ d A ad cd st W W1 (.agg #[.slice a n c])):True:=trivial
def stB (d:List Fa)(e:Int)(f:Fo):List Dn×Int:=if e=0 then buildX d f else([],e)
theorem stb_len (d:List Fa)(st:List Dn×Int)(f:Fo):(stB d st.2 f).1.length<=1000000:=by
 unfold stB
 split
 {exact buildX_len d f}
 {exact Nat.zero_le _}
theorem stb_zero {d:List Fa}{e:Int}{f:Fo}(h:(stB d e f).2=0):e=0:=by
 unfold stB at h
 split at h
 {assumption}
 {exact h}
theorem stb_valid {d:List Fa}{e:Int}{f:Fo}(h:(stB d e f).2=0):ValidG d (stB d e f).1:=by
 unfold stB at h⊢
 split at h
 {next he=>rw[if_pos he];exact(buildX_ok h).1}
 {next he=>exact absurd h he}
theorem stpN_valid {d:List Fa}{st:List Dn×Int}{f:Fo}(h:(stpN d st f).2=0):ValidG d (stpN d st f).1:=by
 unfold stpN at h⊢
 split at h
 ·next h0=>
  rw[if_pos h0]
  split at h
  {next hb=>rw[if_pos hb];exact(andX_ok h).2.2.1}
  {next hb=>exact absurd h hb}
 {next h0=>exact absurd h h0}
theorem an_not {d:List Fa}{A:Nat}{ad:Option Addr}{cd:Nat}{st:List Dn×Int}{W W1:World}{a:Option Addr}{n c:Nat}(h:Hid (AnQ d A ad cd st W W1 (.agg #[.slice a n c])))(hl:st.1.length<=1000000):
  Calls Tryz.prog 43 #[.agg #[.slice a n c]] W1 fun r w'=>∃(t2:List Dn) (a':Option Addr) (k':Nat),r=.returned (.agg #[.slice a' (notD t2).length k'])/\ Hid (DgIn w' w'.heap.size (notD t2) (.agg #[.slice a' (notD t2).length k']))/\ Hid (st.2=0->t2=st.1)/\ Hid (t2.length<=1000000)/\ Hid (Below W1.heap.size W1 w'):=by
 by_cases h0:st.2=0
 {refine(notG_any hl (h.out.dg h0)).mono ?_;rintro e w' ⟨a',k',rfl,h1,h2⟩;exact⟨st.1,a',k',rfl,h1,fun _=>rfl,hl,h2⟩}
 {obtain⟨g,hg,h1⟩:=h.out.any;refine(notG_any hg h1).mono ?_;rintro e w' ⟨a',k',rfl,h1,h2⟩;exact⟨g,a',k',rfl,h1,fun hz=>absurd hz h0,hg,h2⟩}
theorem notD_len (t:List Dn):(notD t).length=t.length:=by unfold notD;rw[List.length_map]
def nonF (d:List Fa)(K:Chg->Bool)(st0:List Dn×Int)(l:List Chg):List Dn×Int:=((l.filter K).map (·.cond)).foldl (stpN d) st0
theorem nonF_more (d:List Fa)(K:Chg->Bool)(st0:List Dn×Int)(l:List Chg)(p:Chg):nonF d K st0 (l++[p])=if K p=true then stpN d (nonF d K st0 l) p.cond else nonF d K st0 l:=by
 unfold nonF;rw[List.filter_append];by_cases h:K p=true
 {rw[if_pos h];simp[h]}
 {rw[if_neg h];simp[h]}
theorem own_stp {A base:Nat}{W W':World}{e:TypeId}{k n:Nat}{v:Value}{xs:List Value}(h:W.ownsRow base e k v n xs)(hs:AnStp A W W')(hA:A<base):W'.ownsRow base e k v n xs:=
 own_block h fun g hg=>hs.old g (h.lt g hg).2 (by have:=(h.lt g hg).1;omega)
theorem true_in (W:World)(B:Nat):trueF.In W B (.agg #[.int .i64 1,.string ⟨#[]⟩,.int .i64 0,.int .i64 0,.slice none 0 0]):=by
 unfold trueF;rw[Fo.In];exact⟨none,0,rfl,by unfold W64;omega,by unfold W64;omega,by unfold W64;omega,Nat.zero_le _,Nat.le_refl _,Nat.zero_le _,fun h=>absurd rfl h⟩
theorem an_start {d:List Fa}{A:Nat}{ad:Option Addr}{cd:Nat}{st:List Dn×Int}{w W0 w1:World}{v:Value}(hb:Below w.heap.size w W0)(h:Hid (AnQ d A ad cd st W0 w1 v))(o:Obj):AnQ d A ad cd st w (w1.alloc o) v:=
 AnQ.belowR ⟨(AnStp.of_below hb).trans h.out.step,fun hz=>hb.trans ((h.out.same hz).mono hb.size),h.out.box,h.out.dg,h.out.any⟩ ((Below.refl _ _).alloc (Nat.le_refl _) o)
theorem none_any {d:List Fa}{xs:List ChA}{K:Chg->Bool}{va:Option Addr}{vc:Nat}{w:World}{B A:Nat}{ad:Option Addr}{cd:Nat}{e:Int}(g:Nat)(eg:∀args w,(callFunc g args).run Tryz.prog w=.ok (.enter g args) w)
  (hK:∀(x:Chg) (ak:Option Addr) (ck:Nat) (W:World),Calls Tryz.prog g #[.agg (chC x ak ck).toArray] W fun e W'=>e=.returned (.bool (K x))/\ Below W.heap.size W W')
  (hA:AnB w A ad d.length cd e) (hBA:B<=A) (hd:DomIn w B d (.agg #[.slice ad d.length cd])) (hT:TabH B w)
  (hl:w.ownsRow (A+1) 49 9 (.slice va xs.length vc) xs.length (xs.flatMap ChA.cells)) (hx:∀x∈xs,x.Ok w B) (hsz:∀x∈xs,x.c.cond.size<=1000000):
  Calls Tryz.prog 38 #[.pointer (some ⟨A,0,none⟩),.slice va xs.length vc,.func (.func g) #[] #[]] w fun r w'=>∃(a:Option Addr) (n c:Nat),r=.returned (.agg #[.slice a n c])/\ AnQ d A ad cd (noneX d e (((xs.map ChA.c).filter K).map (·.cond))) w w' (.agg #[.slice a n c]):=by
 have hAw:=hA.lt;have HR0:=Lib.hid (show noneX d e (((xs.map ChA.c).filter K).map (·.cond))=nonF d K (stB d e trueF) (xs.map ChA.c)from rfl);obtain⟨R,hR⟩:∃R,noneX d e (((xs.map ChA.c).filter K).map (·.cond))=R:=⟨_,rfl⟩;rw[hR]at HR0⊢;have HK:=Lib.hid hK;have HD:=Lib.hid hd;have HT:=Lib.hid hT;have HL:=Lib.hid hl;have HOK:=Lib.hid hx
 have HSZ:Hid (∀p∈xs.map ChA.c,p.cond.size<=1000000):=fun p hp=>by{obtain⟨x,hx',rfl⟩:=List.mem_map.1 hp;exact hsz x hx'}
 have hb1:Below w.heap.size w (w.alloc (.cells #[.slice none 0 0] 75)):=(Below.refl _ _).alloc (Nat.le_refl _) _;have HRS:Hid (Blk (w.alloc (.cells #[.slice none 0 0] 75)) w.heap.size 75 #[.slice none 0 0]):=Blk.new w _ _
 have HIN:Hid (∀W',AnStp A w W'->DomIn W' W'.heap.size d (.agg #[.slice ad d.length cd])/\ TabH W'.heap.size W'/\ SlIn ChR 9 W' W'.heap.size (xs.map ChA.c) (.slice va xs.length vc)):=fun W' hs=>by{have hbB:=hs.below (B:=B) (by omega) hBA;have hsz:=hs.size;refine⟨(hd.below hbB).mono (by omega),fun w'' h=>hT w'' (hbB.trans (h.mono (by omega))),own_chs (own_stp hl hs (Nat.lt_succ_self _)) (Nat.le_refl _) fun x hx'=>((hx x hx').up hbB).mono (by omega)⟩}
 have HB0:Hid (∀W',AnStp A w W'->AnB W' A ad d.length cd e->Calls Tryz.prog 68 #[.pointer (some ⟨A,0,none⟩),.agg #[.int .i64 1,.string ⟨#[]⟩,.int .i64 0,.int .i64 0,.slice none 0 0]] W' fun r w'=>∃(a:Option Addr) (n c:Nat),r=.returned (.agg #[.slice a n c])/\ Hid (AnQ d A ad cd (stB d e trueF) W' w' (.agg #[.slice a n c]))):=fun W' hs hA'=>by{obtain⟨h1,h2,_⟩:=HIN.out W' hs;exact anBuild_any hA' h1 (true_in W' W'.heap.size) (by decide) h2}
 clear hR hK hd hT hl hx hsz;go_enter Tryz.func38,Tryz.ntmps38;go_upto_region 1 with(fail);go_upto_region 2 with(go_at_call 68;refine(HB0.out _ (AnStp.of_below hb1) (hA.below hb1)).mono ?_;rintro e w1 ⟨a1,n1,c1,rfl,HQ1⟩);obtain⟨X,hX⟩:∃X,w1.heap.size=X:=⟨_,rfl⟩;have HQ2:Hid (AnQ d A ad cd (stB d e trueF) w (w1.alloc (.cells #[.slice a1 n1 c1] 75)) (.agg #[.slice a1 n1 c1])):=an_start hb1 HQ1 _;have HX2:Hid (Blk (w1.alloc (.cells #[.slice a1 n1 c1] 75)) X 75 #[.slice a1 n1 c1]):=by rw[<-hX];exact Blk.new _ _ _
 have HR2:Hid (Blk (w1.alloc (.cells #[.slice a1 n1 c1] 75)) w.heap.size 75 #[.slice none 0 0]):=(HQ1.out.step.blk HRS.out (by omega)).alloc _;have HXW:Hid (w.heap.size<=X):=by show _<=_;have:=HQ1.out.step.size;have:=hb1.size;omega
 have HXA:Hid (X≠A):=by show _≠_;have:=HXW.out;omega
 have HRA:Hid (w.heap.size≠A):=by show _≠_;omega
 have HRX:Hid (w.heap.size≠X):=by show _≠_;have:=HQ1.out.step.size;simp at this;omega
 have HV2:=Lib.hid (stb_valid (d:=d) (e:=e) (f:=trueF));have HF0:Hid (nonF d K (stB d e trueF) ((xs.map ChA.c).take 0)=stB d e trueF):=rfl;generalize stB d e trueF=st0 at*
 rw[hX];clear hb1 HRS HB0 HQ1 hX hA;obtain⟨l,hl⟩:∃l,xs.map ChA.c=l:=⟨_,rfl⟩;have hln:xs.length=l.length:=by rw[<-hl,List.length_map]
 rw[hl]at HR0 HSZ HF0;rw[hl,hln]at HIN;rw[hln];clear HL HOK hl hln;generalize w1.alloc (.cells #[.slice a1 n1 c1] 75)=W0 at*
 go_wp2
 go_loopw [15] (fun iv wr=>∃(k:Nat) (st:List Dn×Int) (a:Option Addr) (n c:Nat),k<=l.length/\ iv=.int .i64 k/\ Hid (nonF d K st0 (l.take k)=st)/\ Hid (AnQ d A ad cd st w wr (.agg #[.slice a n c]))/\ Hid (Blk wr X 75 #[.slice a n c])/\ Hid (Blk wr w.heap.size 75 #[.slice none 0 0])/\ Hid (st.2=0->ValidG d st.1)) (fun iv _=>l.length-(intOf iv).toNat)
 case atStart=>exact⟨0,st0,a1,n1,c1,Nat.zero_le _,rfl,HF0,HQ2,HX2,HR2,HV2⟩
 case round=>
  obtain⟨k,st,ag,ng,cg,hk,rfl,HF,HQ,HX,HRW,HV⟩:=hrel;clear HQ2 HX2 HR2 HV2 HF0;by_cases hlt:k<l.length
  ·have hsl:=(HIN.out wr HQ.out.step).2.2
   obtain⟨va2,vc2,hsh,v1,v2,_⟩:=SlIn.shape hsl;cases hsh
   obtain⟨b,off,rfl,hbB,ak,ck,hr,hf,_⟩:=SlIn.at hsl k hlt;have HXT:Hid (l.take (k+1)=l.take k++[l[k]]):=List.take_succ_eq_append_getElem hlt;have hsk:=HSZ.out l[k] (List.getElem_mem hlt);generalize l[k]=p at*
   have HFT0:Hid (nonF d K st0 (l.take (k+1))=if K p=true then stpN d st p.cond else st):=by show _=_;rw[HXT.out,nonF_more,HF.out]
   have HRG:=Lib.hid hr;have HFO:=Lib.hid hf;have HSK:=Lib.hid hsk;clear hsl hr hf hsk HXT;unfold maxLen at v2;cases hKp:K p with
   | false=>
    have HFT:Hid (nonF d K st0 (l.take (k+1))=st):=by show _=_;rw[HFT0.out,hKp];rfl
    clear HFT0
    go_wp2_with (first
     | ((with_reducible show wpList _ _ _ (⟨_,Op.load 49 (.tmp 17),_,_,_,_⟩::_) _ _);refine wpList_load_ch rfl (.tmp 17) rfl rfl p ak ck HRG.out Tryz.underlying49 rfl Chg.info ?_)
     | ((with_reducible show wpList _ _ _ (⟨_,Op.store 49 (.tmp 9) (.tmp 18),_,_,_,_⟩::_) _ _);refine wpList_store_ch rfl (.tmp 9) (.tmp 18) rfl p ak ck rfl rfl ?hs1 Chg.info ?_;(case hs1=>rfl);intro W1 hb1 hz1 hr1 hf1;have e1_0:=hr1 0 _ rfl;have e1_2:=hr1 2 _ rfl;have e1_3:=hr1 3 _ rfl;have e1_4:=hr1 4 _ rfl;have e1_5:=hr1 5 _ rfl;have e1_6:=hr1 6 _ rfl;have HR1:=Lib.hid hr1;clear hr1)
     | ((with_reducible show wpList _ _ _ (⟨_,Op.load 49 (.tmp 9),_,_,_,_⟩::_) _ _);refine wpList_load_ch rfl (.tmp 9) rfl rfl p ak ck HR1.out Tryz.underlying49 rfl Chg.info ?_)
     | (go_at_fn g;refine(HK.out p ak ck _).mono ?_;rintro e w3 ⟨rfl,hb3⟩;rw[hKp]))
    have HB3:=Lib.hid (hb1.trans (hb3.mono hb1.size));have HQ3:=Lib.hid (HQ.out.belowR HB3.out);have HX3:=Lib.hid (HX.out.below HB3.out);have HR3:=Lib.hid (HRW.out.below HB3.out);go_roundw
    case rel=>exact⟨k+1,st,ag,ng,cg,by omega,by go_num,HFT,HQ3,HX3,HR3,HV⟩
    case measure=>simp[intOf];omega
   | true=>
    have HFT:Hid (nonF d K st0 (l.take (k+1))=stpN d st p.cond):=by show _=_;rw[HFT0.out,hKp];rfl
    clear HFT0
    go_upto_region 6 with(first
     | ((with_reducible show wpList _ _ _ (⟨_,Op.load 49 (.tmp 17),_,_,_,_⟩::_) _ _);refine wpList_load_ch rfl (.tmp 17) rfl rfl p ak ck HRG.out Tryz.underlying49 rfl Chg.info ?_)
     | ((with_reducible show wpList _ _ _ (⟨_,Op.store 49 (.tmp 9) (.tmp 18),_,_,_,_⟩::_) _ _);refine wpList_store_ch rfl (.tmp 9) (.tmp 18) rfl p ak ck rfl rfl ?hs1 Chg.info ?_;(case hs1=>rfl);intro W1 hb1 hz1 hr1 hf1;have e1_0:=hr1 0 _ rfl;have e1_2:=hr1 2 _ rfl;have e1_3:=hr1 3 _ rfl;have e1_4:=hr1 4 _ rfl;have e1_5:=hr1 5 _ rfl;have e1_6:=hr1 6 _ rfl;have HR1:=Lib.hid hr1;clear hr1)
     | ((with_reducible show wpList _ _ _ (⟨_,Op.load 49 (.tmp 9),_,_,_,_⟩::_) _ _);refine wpList_load_ch rfl (.tmp 9) rfl rfl p ak ck HR1.out Tryz.underlying49 rfl Chg.info ?_)
     | (go_at_fn g;refine(HK.out p ak ck _).mono ?_;rintro e w3 ⟨rfl,hb3⟩;rw[hKp]))
    have HB3:=Lib.hid (hb1.trans (hb3.mono hb1.size));have hcl:wr.heap.size<W1.heap.size:=World.block_lt_of_cell? _ _ (HR1.out 0 _ rfl);have HQ3:=Lib.hid (HQ.out.belowR HB3.out);have HX3:=Lib.hid (HX.out.below HB3.out);have HR3:=Lib.hid (HRW.out.below HB3.out);have HC3:=Lib.hid (rng_below HR1.out hb3 hcl);have HFO3:Hid (p.cond.In w3 w3.heap.size (condC p ak ck)):=Fo.In.mono HB3.out.size _ _ (Fo.In.below HB3.out _ _ HFO.out)
    have HKP:Hid (∀w',AnStp A w3 w'->w'.cell? ⟨X,0,none⟩=some (.slice ag ng cg)/\ w'.cell? ⟨wr.heap.size,2,none⟩=some (.int .i64 p.cond.op)/\ w'.cell? ⟨wr.heap.size,3,none⟩=some (.string p.cond.name)/\ w'.cell? ⟨wr.heap.size,4,none⟩=some (.int .i64 p.cond.cmp)/\ w'.cell? ⟨wr.heap.size,5,none⟩=some (.int .i64 p.cond.n)/\ w'.cell? ⟨wr.heap.size,6,none⟩=some (.slice ak p.cond.kids.length ck)):=fun w' hs=>by{(have hwl:wr.heap.size<w3.heap.size:=by have:=hb3.size;omega);(have hAr:wr.heap.size≠A:=by have:=HQ.out.box.lt;omega);(have k:=fun(i:Nat) v (h:(chC p ak ck)[i]? =some v)=>(hs.cell (o:=0+i) hwl hAr).trans (HC3.out i v h));exact⟨(hs.blk HX3.out HXA.out).cell 0,k 2 _ rfl,k 3 _ rfl,k 4 _ rfl,k 5 _ rfl,k 6 _ rfl⟩}
    have HBU:Hid (Calls Tryz.prog 68 #[.pointer (some ⟨A,0,none⟩),condC p ak ck] w3.drew fun r w'=>∃(a:Option Addr) (n c:Nat),r=.returned (.agg #[.slice a n c])/\ Hid (AnQ d A ad cd (stB d st.2 p.cond) w3.drew w' (.agg #[.slice a n c]))/\ Hid (AnStp A w3 w')):=by{have hb:Below w3.heap.size w3 w3.drew:=(Below.refl _ _).drew;obtain⟨h1,h2,_⟩:=HIN.out w3.drew (HQ3.out.step.trans (AnStp.of_below hb));refine(anBuild_any (HQ3.out.box.below hb) h1 (Fo.In.mono hb.size _ _ (Fo.In.below hb _ _ HFO3.out)) HSK.out h2).mono ?_;rintro e w' ⟨a,n,c,rfl,q⟩;exact⟨a,n,c,rfl,q,(AnStp.of_below hb).trans q.step⟩}
    have HAN:Hid (∀(w8 w9:World) (v8:Value) (t9:List Dn) (a9:Option Addr) (k9:Nat),Hid (AnQ d A ad cd (stB d st.2 p.cond) w3.drew w8 v8)->Hid ((stB d st.2 p.cond).2=0->t9=(stB d st.2 p.cond).1)->Hid (t9.length<=1000000)->Hid (Below w8.heap.size w8 w9)->Hid (DgIn w9 w9.heap.size (notD t9) (.agg #[.slice a9 (notD t9).length k9]))->
      Calls Tryz.prog 42 #[.pointer (some ⟨A,0,none⟩),.agg #[.slice ag ng cg],.agg #[.slice a9 (notD t9).length k9]] w9 fun r w'=>∃(a:Option Addr) (n c:Nat),r=.returned (.agg #[.slice a n c])/\ Hid (AnQ d A ad cd (stpN d st p.cond) w w' (.agg #[.slice a n c]))/\ Hid (AnStp A w3 w')/\ Hid (Blk w' X 75 #[.slice ag ng cg])):=by
     intro w8 w9 v8 t9 a9 k9 hq8 ht9 hn9 hb9 hd9;have hb:Below w3.heap.size w3 w3.drew:=(Below.refl _ _).drew;have hs9:AnStp A w3.drew w9:=hq8.out.step.trans (AnStp.of_below hb9.out);obtain⟨h1,h2,_⟩:=HIN.out w9 (HQ3.out.step.trans ((AnStp.of_below hb).trans hs9));have hq3:=HQ3.out.belowR hb;refine(anAnd_any (tx:=st.1) (ty:=notD t9) (hq8.out.box.below hb9.out) h1 (fun hz=>?_) (((hq3.any).spoil hq3.box hq8.out.box hq8.out.step).below hb9.out) ⟨notD t9,by rw[notD_len];exact hn9.out,hd9.out⟩ h2).mono ?_
     {have h0:=stb_zero hz;have hsm:=(hq8.out.same hz).trans (hb9.out.mono (hq8.out.same hz).size);exact⟨((hq3.dg h0).below hsm).mono hsm.size,hd9.out,valid_64 (HV.out h0),by rw[ht9.out hz];exact valid_64 (not_valid (stb_valid hz)).1⟩}
     {rintro e w' ⟨a,n,c,rfl,q⟩;exact⟨a,n,c,rfl,AnQ.round hq3 hq8.out hb9.out hd9.out (fun hz=>by rw[ht9.out hz,show stB d st.2 p.cond=buildX d p.cond from if_pos (stb_zero hz)]) q,(AnStp.of_below hb).trans (hs9.trans q.step),(((AnStp.of_below hb).trans (hs9.trans q.step)).blk HX3.out HXA.out)⟩}
    clear HQ HX HRW HB3 HC3 HFO HFO3 HRG hb1 hb3 HR1 hcl;refine wp_region_T 8 (fun w':World=>Hid (AnStp A w3 w')) (by kernel_rfl) (Lib.hid (AnStp.of_below (Below.refl w3.heap.size w3).drew)) (fun hHeld=>?_);refine wpAnyT_take0 (i:=0) (oi:=⟨some 22,.move (.tmp 0),70, "regime.go:139",#[],none⟩) (v:=?v0) rfl (by kernel_rfl) (by kernel_rfl) (by kernel_rfl) rfl (fun _ _ _ h=>h) (Or.inl ⟨by rfl,?y0⟩) (fun _=>by assumption) ?_
    case y0=>(intro w9;go_simp;try with_reducible rfl)
    try simp only[Act.put,sA,sB,sC]
    refine xk 1 ?v1 ?y1 ?_
    case y1=>(intro w9 hSw;obtain⟨y0,y1,y2,y3,y4,y5⟩:=HKP.out w9 hSw.out;go_simp;try with_reducible rfl)
    refine wpAnyT_take0 (i:=2) (oi:=⟨some 24,.move (.tmp 0),70, "regime.go:139",#[],none⟩) (v:=?v2) rfl (by kernel_rfl) (by kernel_rfl) (by kernel_rfl) rfl (fun _ _ _ h=>h) (Or.inl ⟨by rfl,?y2⟩) (fun _=>by assumption) ?_
    case y2=>(intro w9;go_simp;try with_reducible rfl)
    try simp only[Act.put,sA,sB,sC]
    refine wpAnyT_take0 (i:=3) (oi:=⟨some 25,.fieldAddr 49 (.tmp 9) 2,0, "regime.go:139",#[],none⟩) (v:=?v3) rfl (by kernel_rfl) (by kernel_rfl) (by kernel_rfl) rfl (fun _ _ _ h=>h) (Or.inl ⟨by rfl,?y3⟩) (fun _=>by assumption) ?_
    case y3=>(intro w9;go_simp;try with_reducible rfl)
    try simp only[Act.put,sA,sB,sC]
    refine xk 4 ?v4 ?y4 ?_
    case y4=>(intro w9 hSw;obtain⟨y0,y1,y2,y3,y4,y5⟩:=HKP.out w9 hSw.out;go_simp;try with_reducible rfl)
    refine xr 5 (fun K hK=>?_)
    (go_simp;go_at_call 68;refine HBU.out.mono ?_;rintro e w8 ⟨a8,n8,c8,rfl,HQ8,HS8⟩)
    refine hK.out _ _ ?_ (fun hHeld=>?_)
    {first | exact HS10 | exact Lib.hid (HS8.out.trans (AnStp.of_below HB9.out)) | exact HS8}
    clear hK K
    try simp only[Act.put,sA,sB,sC]
    refine xr 6 (fun K hK=>?_)
    (go_simp;go_at_call 43;refine(an_not HQ8 (stb_len d st p.cond)).mono ?_;rintro e w9 ⟨t9,a9,k9,rfl,HD9,HT9,HN9,HB9⟩)
    refine hK.out _ _ ?_ (fun hHeld=>?_)
    {first | exact HS10 | exact Lib.hid (HS8.out.trans (AnStp.of_below HB9.out)) | exact HS8}
    clear hK K
    try simp only[Act.put,sA,sB,sC]
    refine xr 7 (fun K hK=>?_)
    (go_simp;go_at_call 42;refine(HAN.out w8 w9 _ t9 a9 k9 HQ8 HT9 HN9 HB9 HD9).mono ?_;rintro e w10 ⟨a10,n10,c10,rfl,HQR,HS10,HX10⟩)
    refine hK.out _ _ ?_ (fun hHeld=>?_)
    {first | exact HS10 | exact Lib.hid (HS8.out.trans (AnStp.of_below HB9.out)) | exact HS8}
    clear hK K
    try simp only[Act.put,sA,sB,sC]
    refine xl 8 (fun K hK=>?_)
    (have cz:=HX10.out.cell 0;have fz:=HX10.out.frozen 0;go_simp)
    refine hK.out _ _ ?_;clear hK K
    try simp only[Act.put,sA,sB,sC]
    refine wpAnyT_done (by kernel_rfl) ?_ _
    (go_wp2;have HX12:=Lib.hid (blk_one HX10.out (.slice a10 n10 c10));have HR12:=Lib.hid (blk_else (HS10.out.blk HR3.out HRA.out) HRX.out 0 (.slice a10 n10 c10));have HQ12:=Lib.hid (AnQ.var HQR.out HX10.out HXW.out HXA.out (.slice a10 n10 c10));have HF12:=HFT.out;generalize World.setCell w10 ⟨X,0,none⟩ (.slice a10 n10 c10)=WZ at*;clear HS10 HX10 HQR HS8 HQ8 HD9 HT9 HB9;have HV12:=Lib.hid (stpN_valid (d:=d) (st:=st) (f:=p.cond));go_roundw;(case rel=>exact⟨k+1,stpN d st p.cond,a10,n10,c10,by omega,by go_num,HFT,HQ12,HX12,HR12,HV12⟩);(case measure=>simp[intOf];omega))
  {(have HFE:Hid (R=st):=by show _=_;rw[HR0.out, <-HF.out,List.take_of_length_le (by omega)]);have cx:=HX.out.cell 0;have cr:=HRW.out.cell 0;have fr:=HRW.out.frozen 0;go_wp2;have hcs:=(blk_one HRW.out (.slice ag ng cg)).cell 0;refine bodyPost_ret (by simp[results,Tryz.results38,go_sem,hcs];try rfl) rfl ?_;exact⟨ag,ng,cg,rfl,by rw[HFE.out];exact HQ.out.var HRW.out (Nat.le_refl _) HRA.out _⟩}
theorem str_infoR :∃i z,Tryz.prog.info? 9=some i/\ i.size=1/\ i.zero=some z/\ z.cells.size=1/\ i.bytes=16:=by
 have h:(Tryz.prog.info? 9).map (fun i=>(i.size,i.zero.map (·.cells.size),i.bytes))=some (1,some 1,16):=by kernel_rfl
 cases hi:Tryz.prog.info? 9 with| none=>rw[hi]at h;cases h| some i=>{rw[hi]at h;simp only[Option.map_some,Option.some.injEq,Prod.mk.injEq]at h;obtain⟨h1,h2,h3⟩:=h;obtain⟨z,hz,hz2⟩:=Option.map_eq_some_iff.1 h2;exact⟨i,z,rfl,h1,hz,hz2,h3⟩}
theorem own_strsR {W:World}{base n:Nat}{v:Value}{l:List ByteArray}(h:W.ownsRow base 9 1 v n (l.map Value.string))(hn:n=l.length):StrsIn W W.heap.size l v:=by
 subst hn;rcases h.2 with⟨rfl,h0⟩ | ⟨g,cap,cur,rfl,_,hg,h1,h2,h3,h4⟩
 {obtain rfl:=List.length_eq_zero_iff.1 h0;exact⟨none,0,rfl,Nat.le_refl _,Nat.zero_le _,fun h=>absurd rfl h⟩}
 {refine⟨_,_,rfl,h1,h2,fun hne=>⟨g,0,rfl,(Array.getElem?_eq_some_iff.1 hg).1,fun i hi=>?_⟩⟩;show W.cell? ⟨g,0+i*1,none⟩=_;rw[Nat.zero_add,Nat.mul_one,h.cellAt i (by omega),List.getElem?_map,List.getElem?_eq_getElem hi];rfl}
theorem ids_any (l:List Chg)(v:Value)(w:World)(B:Nat)(hn:l.length<=60)(hB:B<=w.heap.size)(hl:SlIn ChR 9 w B l v):
  Calls Tryz.prog 46 #[v] w fun e w'=>∃(a:Option Addr) (c:Nat),e=.returned (.slice a (l.map (·.id)).length c)/\ StrsIn w' w'.heap.size (l.map (·.id)) (.slice a (l.map (·.id)).length c)/\ (∀x,a=some x->w.heap.size<=x.block/\ x.block<w'.heap.size)/\ Below w.heap.size w w':=by
 obtain⟨ap,cp,rfl,p1,p2,_⟩:=SlIn.shape hl;obtain⟨i0,z0,hi0,hs0,hz0,hzs0,hb0⟩:=str_infoR;have HP:=Lib.hid hl;clear hl;have HR0:Hid (w.ownsRow w.heap.size 9 1 (.slice none 0 0) 0 ((((l.take 0)).map (·.id)).map Value.string)):=World.ownsRow_nil _ _ _ _;have HB0:=Lib.hid (Below.refl w.heap.size w);go_enter Tryz.func46,Tryz.ntmps46;go_wp2
 go_loopw [3,8] (fun ov iv wr=>∃(k:Nat),k<=l.length/\ iv=.int .i64 k/\ Hid (wr.ownsRow w.heap.size 9 1 ov k ((((l.take k)).map (·.id)).map Value.string))/\ Hid (Below w.heap.size w wr)) (fun _ iv _=>l.length-(intOf iv).toNat)
 case atStart=>exact⟨0,Nat.zero_le _,rfl,HR0,HB0⟩
 case round=>
  obtain⟨k,hk,rfl,HR,HB⟩:=hrel;clear HR0;obtain⟨va,vc,rfl⟩:=own_len HR.out;by_cases hlt:k<l.length
  ·obtain⟨b,off,rfl,hbB,ak,ck,hr,_⟩:=SlIn.at (HP.out.below ChR.kept (HB.out.mono hB)) k hlt
   have HXT:Hid (((l.take (k+1)).map (·.id)).map Value.string=((l.take k).map (·.id)).map Value.string++[.string l[k].id]):=by show _=_;rw[List.take_succ_eq_append_getElem hlt,List.map_append,List.map_append];rfl
   generalize l[k]=p at*
   have HRG:=Lib.hid hr;clear hr
   go_wp2_with (first
    | ((with_reducible show wpList _ _ _ (⟨_,Op.load 49 (.tmp 10),_,_,_,_⟩::_) _ _);refine wpList_load_ch rfl (.tmp 10) rfl rfl p ak ck HRG.out Tryz.underlying49 rfl Chg.info ?_)
    | (((with_reducible show wpList _ _ _ (⟨_,Op.store 49 (.tmp 5) (.tmp 11),_,_,_,_⟩::_) _ _);refine wpList_store_ch rfl (.tmp 5) (.tmp 11) rfl p ak ck rfl rfl ?hs1 Chg.info ?_;(case hs1=>rfl);intro W1 hb1 hz1 hr1 hf1;have e1_0:=hr1 0 _ rfl;have HR1:=Lib.hid hr1;clear hr1);have HBA:Hid (Below wr.heap.size wr (W1.alloc (.cells #[.string p.id] 9))):=hb1.alloc hb1.size _;have HRA:=Lib.hid (own_under HR.out HBA.out);have HNA:Hid (∀j u,([.string p.id]:List Value)[j]? =some u->(W1.alloc (.cells #[.string p.id] 9)).cell? ((⟨wr.heap.size+1,0,none⟩:Addr).add j)=some u):=(by have q:=new_cells W1 9 [.string p.id];rw[hz1]at q;exact q))
    | (at_builtin;go_loud (refine wpList_append_own_at _ rfl (.tmp 12) (.tmp 15) 38 rfl w.heap.size 9 i0 z0 1 16 Tryz.underlying38 hi0 hz0 hs0 hb0 hzs0 (by decide) (.slice va k vc) _ _ rfl HRA.out ⟨wr.heap.size+1,0,none⟩ 1 1 [.string p.id] rfl rfl HNA.out (by intro u hu;simp at hu;subst hu;rfl) (by unfold maxLen;omega) (by omega) (by have:=HB.out.size;have:=hb1.size;simp;omega) ?_;intro v9 w9 hown9 hgrow9 hnil9 hat9)))
   have C:Below w.heap.size w w9:=(HB.out.trans (HBA.out.mono HB.out.size)).grown hgrow9 (by have:=HB.out.size;have:=hb1.size;simp;omega) (fun g e=>(HR.out.lt g e).1)
   have HR9:Hid (w9.ownsRow w.heap.size 9 1 v9 (k+1) ((((l.take (k+1))).map (·.id)).map Value.string)):=by{show World.ownsRow _ _ _ _ _ _ _;rw[HXT.out];exact hown9}
   have HB9:=Lib.hid C;go_roundw
   case rel=>exact⟨k+1,by omega,by go_num,HR9,HB9⟩
   case measure=>simp[intOf];omega
  {(have hke:k=l.length:=by omega);(have HRE:Hid (wr.ownsRow w.heap.size 9 1 (.slice va k vc) k ((l.map (·.id)).map Value.string)):=by have:=HR.out;rw[List.take_of_length_le (by omega)]at this;exact this);clear HR;go_wp2;go_ret;(have e:(l.map (·.id)).length=k:=by rw[List.length_map];exact hke.symm);rw[e];exact⟨va,vc,rfl,own_strsR HRE.out e.symm,fun x hx=>HRE.out.lt x.block (by rw[hx];rfl),HB.out⟩}
theorem ana1_any (x:Chg)(ak:Option Addr)(ck:Nat)(w:World):Calls Tryz.prog 39 #[.agg (chC x ak ck).toArray] w fun e w'=>e=.returned (.bool true)/\ Below w.heap.size w w':=by
 show Calls Tryz.prog 39 #[.agg #[.string x.id,.string x.question,.int .i64 x.cond.op,.string x.cond.name,.int .i64 x.cond.cmp,.int .i64 x.cond.n,.slice ak x.cond.kids.length ck,.int .i64 x.day,.bool x.keep]] w _
 have HB:Hid (Below w.heap.size w (w.alloc (.cells #[.string x.id,.string x.question,.int .i64 x.cond.op,.string x.cond.name,.int .i64 x.cond.cmp,.int .i64 x.cond.n,.slice ak x.cond.kids.length ck,.int .i64 x.day,.bool x.keep] 49))):=(Below.refl _ _).alloc (Nat.le_refl _) _;have HB0:Hid (Below w.heap.size w w):=Below.refl _ _;go_enter Tryz.func39,Tryz.ntmps39;go_wp2;go_ret;exact⟨rfl,by first | exact HB.out | exact HB0.out⟩
theorem ana2_any (x:Chg)(ak:Option Addr)(ck:Nat)(w:World):Calls Tryz.prog 40 #[.agg (chC x ak ck).toArray] w fun e w'=>e=.returned (.bool x.keep)/\ Below w.heap.size w w':=by
 show Calls Tryz.prog 40 #[.agg #[.string x.id,.string x.question,.int .i64 x.cond.op,.string x.cond.name,.int .i64 x.cond.cmp,.int .i64 x.cond.n,.slice ak x.cond.kids.length ck,.int .i64 x.day,.bool x.keep]] w _
 have HB:Hid (Below w.heap.size w (w.alloc (.cells #[.string x.id,.string x.question,.int .i64 x.cond.op,.string x.cond.name,.int .i64 x.cond.cmp,.int .i64 x.cond.n,.slice ak x.cond.kids.length ck,.int .i64 x.day,.bool x.keep] 49))):=(Below.refl _ _).alloc (Nat.le_refl _) _;have K:=(Blk.new w 49 #[.string x.id,.string x.question,.int .i64 x.cond.op,.string x.cond.name,.int .i64 x.cond.cmp,.int .i64 x.cond.n,.slice ak x.cond.kids.length ck,.int .i64 x.day,.bool x.keep]).cell 8;simp only[List.getElem?_toArray,List.getElem?_cons_zero,List.getElem?_cons_succ]at K;go_enter Tryz.func40,Tryz.ntmps40;go_wp2;go_ret;exact⟨rfl,HB.out⟩
theorem ana3_any (x:Chg)(ak:Option Addr)(ck:Nat)(w:World):Calls Tryz.prog 41 #[.agg (chC x ak ck).toArray] w fun e w'=>e=.returned (.bool (!x.keep))/\ Below w.heap.size w w':=by
 show Calls Tryz.prog 41 #[.agg #[.string x.id,.string x.question,.int .i64 x.cond.op,.string x.cond.name,.int .i64 x.cond.cmp,.int .i64 x.cond.n,.slice ak x.cond.kids.length ck,.int .i64 x.day,.bool x.keep]] w _
 have HB:Hid (Below w.heap.size w (w.alloc (.cells #[.string x.id,.string x.question,.int .i64 x.cond.op,.string x.cond.name,.int .i64 x.cond.cmp,.int .i64 x.cond.n,.slice ak x.cond.kids.length ck,.int .i64 x.day,.bool x.keep] 49))):=(Below.refl _ _).alloc (Nat.le_refl _) _;have K:=(Blk.new w 49 #[.string x.id,.string x.question,.int .i64 x.cond.op,.string x.cond.name,.int .i64 x.cond.cmp,.int .i64 x.cond.n,.slice ak x.cond.kids.length ck,.int .i64 x.day,.bool x.keep]).cell 8;simp only[List.getElem?_toArray,List.getElem?_cons_zero,List.getElem?_cons_succ]at K;go_enter Tryz.func41,Tryz.ntmps41;go_wp2;go_ret;exact⟨rfl,HB.out⟩
theorem ana5_any (cv r:Value)(R:Nat)(w:World){ra:Option Addr}{rn rc:Nat}(hr:r=.slice ra rn rc)(h:w.cell? ⟨R,0,none⟩=some r):Calls Tryz.prog 47 #[cv,.pointer (some ⟨R,0,none⟩)] w fun e w'=>e=.returned r/\ w'=w:=by
 subst hr;go_enter Tryz.func47,Tryz.ntmps47;go_wp2;go_ret;exact⟨rfl,rfl⟩
theorem ana6_any (cv:Value)(R D:Nat)(w:World){ra ad:Option Addr}{rn rc dn dc:Nat}(h:w.cell? ⟨R,0,none⟩=some (.slice ra rn rc))(hd:w.cell? ⟨D,0,none⟩=some (.slice ad dn dc)){P:Ending->World->Prop}(hc:∀W',W'=w\/W'=w.drew->Calls Tryz.prog 31 #[.slice ra rn rc,.agg #[.slice ad dn dc],cv] W' P)(hP:∀e w',P e w'->∃a n c,e=.returned (.slice a n c)):Calls Tryz.prog 48 #[cv,.pointer (some ⟨R,0,none⟩),.pointer (some ⟨D,0,none⟩)] w P:=by
 have HC:=Lib.hid (hc w (.inl rfl));have HPP:=Lib.hid hP;clear hc hP;go_enter Tryz.func48,Tryz.ntmps48;go_wp2_with (go_at_call 31;refine HC.out.mono ?_;intro e w3 hp;obtain⟨a,n,c,rfl⟩:=HPP.out e w3 hp;have HQ:=Lib.hid hp;clear hp);exact HQ.out
theorem step_append_fn {ops:Array Oper}{o:Oper}{a:Act}{w:World}{K:Act->World->Prop}{Q:Exit->Act->World->Prop}{E:Prop}(hgd:o.guard=none)(s x:Operand)
  (ho:o.op=.call {callee:=.builtin .append,args:=#[s,x],argTypes:=#[33,33]}) (base:Nat) (v:Value) (xs:List FnA) (hs:a.eval s=v) (h:FnRow w base v xs) (y:FnA) (ad:Addr) (c:Nat) (hx:a.eval x=.slice (some ad) 1 c)
  (hn:∀j u,y.cells[j]? =some u->w.cell? (ad.add j)=some u) (h63:xs.length+1<=1000000) (hbase:base<=w.heap.size) (hK:∀v' w',FnStep w w' base v v' xs y->K (a.put o.dst v') w'):
  if Region.wanted o (yielded ops a.tmps)=true then Oper.wp Tryz.prog o a w K Q else E:=by
 obtain⟨v',w',hr,h2,h3,h4⟩:=run_append_fn w base o.type v xs h y ad c hn h63 hbase;exact step_run hgd s x _ ho _ _ hs hx _ _ hr (hK v' w' ⟨h,h2,h3,h4⟩)
theorem fn_new (W:World)(T:TypeId)(kind:Int)(kq:ByteArray)(kd:Int)(c:List Int)(l:List Chg)(ac:Option Addr)(cc:Nat)(ai:Option Addr)(ci:Nat):∀j u,(FnA.cells ⟨⟨kind,kq,kd,c,l.map (·.id)⟩,ac,cc,ai,ci⟩)[j]? =some u->
  (W.alloc (.cells #[.int .i64 kind,.string kq,.int .i64 kd,.slice ac c.length cc,.slice ai l.length ci] T)).cell? ((⟨W.heap.size,0,none⟩:Addr).add j)=some u:=fun j u hj=>by
 have e:FnA.cells ⟨⟨kind,kq,kd,c,l.map (·.id)⟩,ac,cc,ai,ci⟩=[.int .i64 kind,.string kq,.int .i64 kd,.slice ac c.length cc,.slice ai l.length ci]:=by unfold FnA.cells;rw[List.length_map]
 rw[e]at hj;exact new_cells W T _ j u hj
structure RepQ (w w' : World) (O base : Nat) (ov ov' : Value) (xs xs' : List FnA) : Prop where
 box:Blk w' O 33 #[ov']
 row:FnRow w' base ov' xs'
 ok:∀x∈xs',x.Ok w' O ov'.ownBlock
 os:w'.os=w.os
 tape:w'.tape=w.tape
 output:w'.output=w.output
 size:w.heap.size<=w'.heap.size
 old:∀b,b<w.heap.size->b≠O->some b≠ov.ownBlock->w'.heap[b]? =w.heap[b]?
 dg:∀g u,DgIn w w.heap.size g u->(∀n∈g,(∀y∈n.cuts,y≠0)/\ n.kids.length≠1)->DgIn w' w'.heap.size g u
 at_:ov'.ownBlock=ov.ownBlock\/∀b,ov'.ownBlock=some b->w.heap.size<=b
section
variable {w w' Wc w13 : World} {O base : Nat} {ov v13 : Value} {xs : List FnA}
theorem rep_none (hb:Below w.heap.size w w')(hO:Blk w O 33 #[ov])(hrow:FnRow w base ov xs)(hok:∀x∈xs,x.Ok w O ov.ownBlock):RepQ w w' O base ov ov xs xs:=
 ⟨hO.below hb,hrow.below hb,fun x hx=>(hok x hx).below hb,hb.os,hb.tape,hb.output,hb.size,fun b h _ _=>hb.block b h,fun _ _ h _=>(h.below hb).mono hb.size,.inl rfl⟩
theorem rep_some {oa:Option Addr}{on oc:Nat}(hov:ov=.slice oa on oc)(hb:Below w.heap.size w Wc)(hO:Blk w O 33 #[ov])(hOb:O<base)(hrow:FnRow w base ov xs)(hok:∀x∈xs,x.Ok w O ov.ownBlock){y:FnA}(hy:y.Ok Wc O ov.ownBlock)(h:FnStep Wc w13 base ov v13 xs y):
  RepQ w (w13.setCell ⟨O,0,none⟩ v13) O base ov v13 xs (xs++[y]):=by
 have hg1:∀g,ov.ownBlock=some g->g≠O:=fun g hg=>by have:=(hrow.own.lt g hg).1;omega
 have hg2:∀g,v13.ownBlock=some g->g≠O:=fun g hg=>by have:=(h.post.own.lt g hg).1;omega
 have hOW:O<Wc.heap.size:=Nat.lt_of_lt_of_le hO.lt hb.size;have hO13:Blk w13 O 33 #[ov]:=(h.grown.block O hOW (fun e=>hg1 O e.symm rfl)).trans (hO.below hb);have hset:w13.grownBy (w13.setCell ⟨O,0,none⟩ v13) (some O):=⟨rfl,rfl,rfl,by rw[World.size_setCell];exact Nat.le_refl _,fun b _ hne=>heap_setCell_other w13 ⟨O,0,none⟩ b v13 (by show b≠O;intro e;exact hne (by rw[e]))⟩;have hgg:v13.ownBlock=ov.ownBlock\/v13.ownBlock=some Wc.heap.size:=h.at_.imp id And.left;have hall:∀x:FnA,x.Ok Wc O ov.ownBlock->x.Ok (w13.setCell ⟨O,0,none⟩ v13) O v13.ownBlock:=fun x hx=>(hx.grown h.grown (.inr (.inl rfl)) hgg).grown hset (.inr (.inr rfl)) (.inl rfl)
 refine⟨blk_one hO13 _,h.post.block fun g hg=>heap_setCell_other w13 ⟨O,0,none⟩ g v13 (hg2 g hg),fun x hx=>?_,h.grown.os.trans hb.os,h.grown.tape.trans hb.tape,h.grown.output.trans hb.output,by rw[World.size_setCell];exact Nat.le_trans hb.size h.grown.size,fun b h1 h2 h3=>?_,fun g u h1 h2=>?_,?_⟩
 {(rcases List.mem_append.1 hx with hx | hx);{exact hall x ((hok x hx).below hb)};{rw[List.mem_singleton]at hx;subst hx;exact hall x hy}}
 {exact(heap_setCell_other w13 ⟨O,0,none⟩ b v13 h2).trans ((h.grown.block b (Nat.lt_of_lt_of_le h1 hb.size) h3).trans (hb.block b h1))}
 {have q:=h.dg ((h1.below hb).mono hb.size) h2;rw[World.size_setCell];subst hov;exact q.set hO13 v13}
 {(rcases h.at_ with e | ⟨e,_⟩);{exact .inl e};{exact .inr fun b hb'=>by rw[e]at hb';cases hb';exact hb.size}}
end
theorem report_any {kind:Int}{t:List Dn}{gv:Value}{kq:ByteArray}{kd:Int}{d:List Fa}{ad:Option Addr}{cd:Nat}{w:World}{base O KB D:Nat}(gi:Nat)(lb:Array Value)(Rf:List Int->List Chg)(eg:∀args w,(callFunc gi args).run Tryz.prog w=.ok (.enter gi args) w)
  (hg:DgIn w w.heap.size t gv) (hv:ValidG d t) (hd:DomIn w w.heap.size d (.agg #[.slice ad d.length cd])) (hD:Blk w D 25 #[.slice ad d.length cd]) {ov:Value} (hO:Blk w O 33 #[ov]) (hK:Blk w KB 59 #[.string kq,.int .i64 kd]) (hOb:O<base) (hbase:base<=w.heap.size) (_:KB≠O) {xs:List FnA}
  (hrow:FnRow w base ov xs) (hKg:∀g,ov.ownBlock=some g->g≠KB) (hok:∀x∈xs,x.Ok w O ov.ownBlock) (hlen:xs.length<=1000) (hT:TabH w.heap.size w) (hRf:∀c,(Rf c).length<=60)
  (hI:∀W' (c:List Int) (cv:Value),Below w.heap.size w W'->IntsIn W' W'.heap.size c cv->Calls Tryz.prog gi (#[cv]++lb) W' fun e W''=>∃r,e=.returned r/\ Below W'.heap.size W' W''/\ SlIn ChR 9 W'' W''.heap.size (Rf c) r):
  Calls Tryz.prog 44 #[.int .i64 kind,gv,.func (.func gi) #[] lb,.pointer (some ⟨D,0,none⟩),.pointer (some ⟨O,0,none⟩),.pointer (some ⟨KB,0,none⟩)] w fun e w'=>e=.returned (.tuple #[])/\ ∃ov' xs',xs'.map (·.f)=xs.map (·.f)++repG d t (fun c=>⟨kind,kq,kd,c,(Rf c).map (·.id)⟩)/\ RepQ w w' O base ov ov' xs xs':=by
 obtain⟨oa,oc,rfl⟩:=own_len hrow.own;obtain⟨_,rfl,hg1⟩:=hg;obtain⟨ga,gc,rfl,_⟩:=SlIn.shape hg1;have hb1:Below w.heap.size w (w.alloc (.cells #[.slice ga t.length gc] 75)):=(Below.refl _ _).alloc (Nat.le_refl _) _;have HG1:Hid (DgIn w w.heap.size t (.agg #[.slice ga t.length gc])):=⟨_,rfl,hg1⟩;have k0:=(hD.below hb1).cell 0;have HLS:=Lib.hid (leastN_any d t (.agg #[.slice ga t.length gc]) (.agg #[.slice ad d.length cd]) (w.alloc (.cells #[.slice ga t.length gc] 75)) (w.alloc (.cells #[.slice ga t.length gc] 75)).heap.size (Nat.le_refl _) ((HG1.out.below hb1).mono hb1.size) ((hd.below hb1).mono hb1.size) (valid_64 hv) (fun w' h=>hT w' (hb1.trans (h.mono hb1.size))));have HB1:=Lib.hid hb1;have HO:=Lib.hid hO;have HKK:=Lib.hid hK;have HR:=Lib.hid hrow;have HOK:=Lib.hid hok;have HIN:=Lib.hid hI;have HRF:=Lib.hid hRf;have HKG:=Lib.hid hKg;have hOw:O<w.heap.size:=hO.lt;have hKw:KB<w.heap.size:=hK.lt;clear hg1 hv hd hD hO hK hrow hok hI hT hb1 hRf hKg;cases hl:leastG d t with
 | none=>{rw[hl]at HLS;go_enter Tryz.func44,Tryz.ntmps44;go_wp2_with (go_at_call 45;refine HLS.out.mono ?_;rintro e w8 ⟨cv,rfl,_,_,hb8⟩);go_end0;exact⟨rfl,_,xs,by unfold repG;rw[hl];simp,rep_none (HB1.out.trans (hb8.mono HB1.out.size)) HO.out HR.out HOK.out⟩}
 | some c=>
  rw[hl]at HLS;have HG:Hid (∀f:List Int->Fnd,repG d t f=[f c]):=fun f=>by unfold repG;rw[hl]
  clear hl;go_enter Tryz.func44,Tryz.ntmps44;go_upto_region 3 with(go_at_call 45;refine HLS.out.mono ?_;rintro e w8 ⟨cv,rfl,hci,hcf,hb8⟩;have HC8:Hid (IntsIn w8 w8.heap.size c cv):=hci;have HF8:=Lib.hid hcf;have HB8:=Lib.hid (HB1.out.trans (hb8.mono HB1.out.size));obtain⟨ac,cc,rfl,_⟩:=SlIn.shape hci;clear hci hcf hb8);have o8:=(HO.out.below HB8.out).cell 0;have k80:=(HKK.out.below HB8.out).cell 0;have k81:=(HKK.out.below HB8.out).cell 1
  have hAC:∀a,ac=some a->w.heap.size<=a.block/\ a.block<w8.heap.size:=fun a ha=>by{obtain⟨h1,h2⟩:=HF8.out a.block (by rw[ha];rfl);rw[World.size_alloc]at h1;omega}
  have HAC:=Lib.hid hAC
  have HF10D:Hid (∀(w10:World) (ai:Option Addr) (ci:Nat),StrsIn w10 w10.heap.size ((Rf c).map (·.id)) (.slice ai ((Rf c).map (·.id)).length ci)->(∀x,ai=some x->w8.heap.size<=x.block/\ x.block<w10.heap.size)->Below w8.heap.size w8 w10->(StrsIn w10 w10.heap.size ((Rf c).map (·.id)) (.slice ai ((Rf c).map (·.id)).length ci)/\ (∀x,ai=some x->w8.heap.size<=x.block/\ x.block<w10.heap.size)/\ (∀o,FnRow (w10.alloc o) base (.slice oa xs.length oc) xs)/\ base<=w10.heap.size/\ Below w8.heap.size w8 w10)):=fun w10 ai ci h1 h2 h3=>⟨h1,h2,fun o=>HR.out.below ((HB8.out.trans (h3.mono HB8.out.size)).alloc (Nat.le_trans HB8.out.size h3.size) o),by have:=h3.size;have:=HB8.out.size;omega,h3⟩
  have HI8:Hid (Calls Tryz.prog gi (#[.slice ac c.length cc]++lb) w8.drew fun e w9=>∃(a:Option Addr) (n c':Nat),e=.returned (.slice a n c')/\ Hid (Below w8.heap.size w8 w9)/\ Hid (SlIn ChR 9 w9 w9.heap.size (Rf c) (.slice a n c'))/\ w9.cell? ⟨O,0,none⟩=some (.slice oa xs.length oc)/\ w9.cell? ⟨KB,0,none⟩=some (.string kq)/\ w9.cell? ⟨KB,1,none⟩=some (.int .i64 kd)):=by{have hbd:Below w8.heap.size w8 w8.drew:=(Below.refl _ _).drew;refine(HIN.out w8.drew c _ (HB8.out.trans (hbd.mono HB8.out.size)) (SlIn.mono (OneR.mono _) hbd.size (SlIn.below (OneR.kept _) hbd HC8.out))).mono ?_;rintro e w9 ⟨r,rfl,h1,h2⟩;obtain⟨a,k,rfl,_⟩:=SlIn.shape h2;have hb:Below w8.heap.size w8 w9:=hbd.trans (h1.mono hbd.size);have hbw:=HB8.out.trans (hb.mono HB8.out.size);exact⟨a,_,k,rfl,hb,h2,(HO.out.below hbw).cell 0,(HKK.out.below hbw).cell 0,(HKK.out.below hbw).cell 1⟩}
  have HID:Hid (∀(w9:World) (a9:Option Addr) (n9 c9:Nat),Hid (Below w8.heap.size w8 w9)->Hid (SlIn ChR 9 w9 w9.heap.size (Rf c) (.slice a9 n9 c9))->Calls Tryz.prog 46 #[.slice a9 n9 c9] w9 fun e w10=>∃(ai:Option Addr) (ci:Nat),e=.returned (.slice ai ((Rf c).map (·.id)).length ci)/\ Hid ((StrsIn w10 w10.heap.size ((Rf c).map (·.id)) (.slice ai ((Rf c).map (·.id)).length ci)/\ (∀x,ai=some x->w8.heap.size<=x.block/\ x.block<w10.heap.size)/\ (∀o,FnRow (w10.alloc o) base (.slice oa xs.length oc) xs)/\ base<=w10.heap.size/\ Below w8.heap.size w8 w10))/\ Hid (Below w8.heap.size w8 w10)/\ w10.cell? ⟨O,0,none⟩=some (.slice oa xs.length oc)/\ w10.cell? ⟨KB,0,none⟩=some (.string kq)/\ w10.cell? ⟨KB,1,none⟩=some (.int .i64 kd)):=fun w9 a9 n9 c9 h1 h2=>by{refine(ids_any (Rf c) _ w9 _ (HRF.out c) (Nat.le_refl _) h2.out).mono ?_;rintro e w10 ⟨ai,ci,rfl,q1,q2,q3⟩;have hb:Below w8.heap.size w8 w10:=h1.out.trans (q3.mono h1.out.size);have hbw:=HB8.out.trans (hb.mono HB8.out.size);exact⟨ai,ci,rfl,HF10D.out w10 ai ci q1 (fun x hx=>⟨Nat.le_trans h1.out.size (q2 x hx).1,(q2 x hx).2⟩) hb,hb,(HO.out.below hbw).cell 0,(HKK.out.below hbw).cell 0,(HKK.out.below hbw).cell 1⟩}
  have HFN:Hid (∀(w10:World) (ai:Option Addr) (ci:Nat) (o:Obj) (v13:Value) (w13:World),Hid ((StrsIn w10 w10.heap.size ((Rf c).map (·.id)) (.slice ai ((Rf c).map (·.id)).length ci)/\ (∀x,ai=some x->w8.heap.size<=x.block/\ x.block<w10.heap.size)/\ (∀o,FnRow (w10.alloc o) base (.slice oa xs.length oc) xs)/\ base<=w10.heap.size/\ Below w8.heap.size w8 w10))->FnStep (w10.alloc o) w13 base (.slice oa xs.length oc) v13 xs ⟨⟨kind,kq,kd,c,(Rf c).map (·.id)⟩,ac,cc,ai,ci⟩->
    Blk w13 O 33 #[.slice oa xs.length oc]/\ Blk w13 KB 59 #[.string kq,.int .i64 kd]/\ (∃oa2 on2 oc2,v13=.slice oa2 on2 oc2)/\ (xs++[(⟨⟨kind,kq,kd,c,(Rf c).map (·.id)⟩,ac,cc,ai,ci⟩:FnA)]).map (·.f)=xs.map (·.f)++repG d t (fun c=>⟨kind,kq,kd,c,(Rf c).map (·.id)⟩)/\
    RepQ w (w13.setCell ⟨O,0,none⟩ v13) O base (.slice oa xs.length oc) v13 xs (xs++[⟨⟨kind,kq,kd,c,(Rf c).map (·.id)⟩,ac,cc,ai,ci⟩])):=fun w10 ai ci o v13 w13 hF hM=>by
   obtain⟨f1,f2,f3,f4,f5⟩:=hF.out;have hba:Below w8.heap.size w8 (w10.alloc o):=f5.alloc f5.size o;have hbw:Below w.heap.size w (w10.alloc o):=HB8.out.trans (hba.mono HB8.out.size);have s8:=HB8.out.size;have s10:=f5.size;have hg1:∀g,(Value.slice oa xs.length oc).ownBlock=some g->base<=g/\ g<w.heap.size:=fun g hg=>HR.out.own.lt g hg
   have hOb2:(O:Nat)<w.heap.size:=hOw;have hk:∀b,b<w.heap.size->(∀g,(Value.slice oa xs.length oc).ownBlock=some g->g≠b)->w13.heap[b]? =w.heap[b]? :=fun b hb hne=>(hM.grown.block b (Nat.lt_of_lt_of_le hb hbw.size) (fun e=>hne b e.symm rfl)).trans (hbw.block b hb)
   have hal:Below w10.heap.size w10 (w10.alloc o):=(Below.refl _ _).alloc (Nat.le_refl _) o;obtain⟨oa2,oc2,e2⟩:=own_len hM.post.own;refine⟨(hk O hOb2 fun g hg e=>by have:=(hg1 g hg).1;omega).trans HO.out,(hk KB hKw fun g hg=>HKG.out g hg).trans HKK.out,⟨oa2,_,oc2,e2⟩,by rw[List.map_append,HG.out];rfl,rep_some rfl hbw HO.out hOb HR.out HOK.out ⟨SlIn.mono (OneR.mono _) hba.size (SlIn.below (OneR.kept _) hba HC8.out),SlIn.mono (OneR.mono _) hal.size (SlIn.below (OneR.kept _) hal f1),fun a ha=>?_,fun a ha=>?_⟩ hM⟩
   {obtain⟨q1,q2⟩:=HAC.out a ha;have:=hba.size;refine⟨by omega,fun e=>?_,by omega⟩;have:=(hg1 a.block e.symm).2;omega}
   {obtain⟨q1,q2⟩:=f2 a ha;have:=hal.size;refine⟨by omega,fun e=>?_,by omega⟩;have:=(hg1 a.block e.symm).2;omega}
  clear hAC HC8 HF8 HOK HR HIN HLS HRF HF10D HAC;refine wp_region_T 14 (fun w':World=>w'.cell? ⟨O,0,none⟩=some (.slice oa xs.length oc)/\ w'.cell? ⟨KB,0,none⟩=some (.string kq)/\ w'.cell? ⟨KB,1,none⟩=some (.int .i64 kd)) (by kernel_rfl) ⟨o8,k80,k81⟩ (fun hHeld=>?_);refine xk 0 ?v0 ?y0 ?_
  case y0=>(intro w9 hSw;obtain⟨q1,q2,q3⟩:=hSw;go_simp;try with_reducible rfl)
  refine xp 1 ?_;refine xp 2 ?_;refine xp 4 ?_;refine xp 6 ?_;refine xp 7 ?_;refine xp 8 ?_;refine xk 3 ?v3 ?y3 ?_
  case y3=>(intro w9 hSw;obtain⟨q1,q2,q3⟩:=hSw;go_simp;try with_reducible rfl)
  refine xk 5 ?v5 ?y5 ?_
  case y5=>(intro w9 hSw;obtain⟨q1,q2,q3⟩:=hSw;go_simp;try with_reducible rfl)
  refine xr 9 (fun K hK=>?_)
  (go_simp;go_at_fn gi;refine HI8.out.mono ?_;rintro e w9 ⟨a9,n9,c9,rfl,HB9,HS9,o9,k90,k91⟩)
  refine hK.out _ _ ?_ (fun hHeld=>?_)
  {(first | exact⟨by assumption,by assumption,by assumption⟩ | go_keep)}
  clear hK K
  try simp only[Act.put,sA,sB,sC]
  refine xr 10 (fun K hK=>?_)
  (go_simp;go_at_call 46;refine(HID.out w9 a9 n9 c9 HB9 HS9).mono ?_;rintro e w10 ⟨ai,ci,rfl,HF10,HB10,o10,k100,k101⟩)
  refine hK.out _ _ ?_ (fun hHeld=>?_)
  {(first | exact⟨by assumption,by assumption,by assumption⟩ | go_keep)}
  clear hK K
  try simp only[Act.put,sA,sB,sC]
  refine xp 11 ?_;refine xr 12 (fun K hK=>?_)
  go_simp
  refine hK.out _ _ ?_ (fun hHeld=>?_)
  {(first | exact⟨by assumption,by assumption,by assumption⟩ | go_keep)}
  clear hK K
  try simp only[Act.put,sA,sB,sC]
  refine xr 13 (fun K hK=>?_)
  (refine step_append_fn (by rfl) _ _ (by rfl) base _ xs (by rfl) (HF10.out.2.2.1 _) ⟨⟨kind,kq,kd,c,(Rf c).map (·.id)⟩,ac,cc,ai,ci⟩ _ _ (by rfl) (fn_new _ _ _ _ _ _ _ _ _ _ _) (by omega) (by have:=HF10.out.2.2.2.1;simp;omega) ?_;intro v13 w13 hM;have HM:=Lib.hid (HFN.out w10 ai ci _ v13 w13 HF10 hM);have o13:=HM.out.1.cell 0;have of13:=HM.out.1.frozen 0;have k130:=HM.out.2.1.cell 0;have k131:=HM.out.2.1.cell 1;clear hM;obtain⟨oa2,on2,oc2,rfl⟩:=HM.out.2.2.1)
  refine hK.out _ _ ?_ (fun hHeld=>?_)
  {(first | exact⟨by assumption,by assumption,by assumption⟩ | go_keep)}
  clear hK K
  try simp only[Act.put,sA,sB,sC]
  refine xl 14 (fun K hK=>?_)
  go_simp
  refine hK.out _ _ ?_;clear hK K
  try simp only[Act.put,sA,sB,sC]
  refine wpAnyT_done (by kernel_rfl) ?_ _
  (go_wp2;go_end0;exact⟨rfl,_,_,HM.out.2.2.2.1,HM.out.2.2.2.2⟩)
end Go.Proofs.YtihniipjfdenbaaGreatDoor
