/- The walk of diagram.write: the text of a node. Bounds on the numbers and on their count. -/
import Derived.Test.YtejbgoigkefnfaaGreatDoorAl
import Derived.Test.YtejbgoigkefnfaaGreatDoorDgTM
import Derived.Test.YtejbgoigkefnfaaGreatDoorShelfAB
import Derived.Deep.DeepCutAuto
import Derived.Shelf.AbstractIn
namespace Go.Proofs.YtejbgoigkefnfaaGreatDoor
open Go.RowKit
theorem vT {a b:ByteArray}(h:a=b):Ending.returned (.string a)=.returned (.string b):=by rw[h]
abbrev abL (w:World):Prop:=Lib.TabIs Tryz.prog w "internal/strconv.uint64pow10" .u64 Lib.pow10Tab
theorem FP :(Tryz.prog.info? 5).map (fun i=>(i.zero,i.size,i.bytes))=some (some (.int .u8 0),1,1):=by kernel_rfl
theorem Tr :∀(l:List Int),(∀x∈l,yj x)->(ji l).length<=22*l.length
 | [],_=>xb _
 | k::l,h=>by{have h1:=Lib.itoa_length_le k (h k la).1 (h k la).2;(have h2:=Tr l fun x hx=>h x (La _ hx));rw[ji,jc,Ea,Ea];unfold ji at h2;simp only[ib,Cc];omega}
theorem OI (l:List Int)(k:Nat)(h:k<l.length):ji (l.take (k+1))=ji (l.take k)++(Lib.itoa l[k]++[44]):=by
 rw[Ka h];unfold ji;rw[Pc]
 simp
structure AR (w W : World) (g : Nat) (rows : Array Value) (bs : List UInt8) (v : Value) : Prop where
 own:W.ownsRow w.heap.size 5 1 v bs.length (Lib.byteCells bs)
 below:Below w.heap.size w W
 rows:Bb W g 28 rows
theorem Hv {cs:Array Value}{t:TypeId}(h:t≠5):∀c fz,(Obj.cells cs t (0,0))≠Obj.cells c 5 fz:=by
 intro c fz e
 injection e with _ h2 _
 exact h h2
theorem AR.num {w W:World}{g:Nat}{rows:Array Value}{bs:List UInt8}{v:Value}(h:AR w W g rows bs v)(hT:Lib.TabBelow Tryz.prog w.heap.size w "internal/strconv.uint64pow10" .u64 Lib.pow10Tab)(k:Int)(hk:yj k)(hl:bs.length≤100000000):
  Calls Tryz.prog 122 #[v,.int .i64 k,.int .i64 10] W fun e W'=>∃v',e=.returned v'/\ Hid (AR w W' g rows (bs++Lib.itoa k) v')/\ W.heap.size<=W'.heap.size:=by
 refine(Tryz.strconv_AppendInt_10 w.heap.size bs.length k hk.1 hk.2 _ _ _ h.own h.below.size ia (hT.on h.below)).mono ?_;rintro e w' ⟨v',rfl,ho,hb,qX⟩;refine⟨v',rfl,⟨?_,h.below.trans hb,qX _ _ h.rows la (Hv pa)⟩,hb.size⟩;rw[Ea,Lib.byteCells_append];exact ho
theorem AR.byte {w W W':World}{g:Nat}{rows:Array Value}{bs:List UInt8}{v v':Value}(h:AR w W g rows bs v)(c:UInt8)(o:Obj)(ho:W'.ownsRow w.heap.size 5 1 v' (bs.length+1) (Lib.byteCells bs++[.int .u8 c.toNat]))(hg:(W.alloc o).grownBy W' v.ownBlock):AR w W' g rows (bs++[c]) v':=by
 refine⟨by rw[Ea,Lib.byteCells_append];exact ho,(h.below.alloc h.below.size o).grown hg (by rw[Ba];have:=h.below.size;omega) (fun k hk=>(h.own.lt k hk).1),?_⟩;refine Bb.grown (Bb.alloc h.rows o) hg fun e=>?_
 have hr:=h.rows;rcases h.own.2 with⟨rfl,_⟩ | ⟨g',cap,cur,rfl,_,Xr,_⟩
 {simp[Value.ownBlock]at e}
 {(have:g=g':=by simpa[Value.ownBlock]using e);subst this;have hr:W.heap[g]? =_:=hr;rw[Xr]at hr;injection hr with hr;injection hr with _ hr _;exact absurd hr pa}
set_option maxRecDepth 100000 in
set_option maxHeartbeats 4000000 in
theorem iL (n:Dn)(vc vk:Value)(w:World)(hc:IntsIn w w.heap.size n.Ja vc)(hk:IntsIn w w.heap.size n.kids vk)(hf:yj n.fact)(h1:∀x∈n.Ja,yj x)(h2:∀x∈n.kids,yj x)
  (l1:n.Ja.length<=1000000) (l2:n.kids.length<=1000001) (SL:abL w):
  Calls Tryz.prog 88 #[.agg #[.int .i64 n.fact,vc,vk,.bool n.leaf]] w fun e w'=>e=.returned (.string (Ah n))/\ Below w.heap.size w w':=by
 obtain⟨ac,cc,rfl,c1,c2,_⟩:=Xa.shape hc;obtain⟨ak,ck,rfl,k1,k2,_⟩:=Xa.shape hk;have hT:=da (Lib.tabBelow_of_tabIs SL);obtain⟨i0,GM,IM,JM,KM⟩:=info_parts FP;obtain⟨fact,Ja,kids,leaf⟩:=n;have HC:=da hc;have HK:=da hk;have H1:=da h1;have H2:=da h2;have lf:=Lib.itoa_length_le fact hf.1 hf.2;have V4:=Tr Ja h1;have SY:=Tr kids h2;clear hc hk h1 h2 SL;simp only at HC HK H1 H2 l1 l2 c1 k1 hf lf V4 SY
 have HR:Hid (dr ⟨fact,Ja,kids,leaf⟩=((if leaf then 49 else 48)::Lib.itoa fact)++([Ja,kids].take 2).flatMap fun l=>58::ji l):=by{show _=_;unfold dr;simp}
 have HW:Hid (Ah ⟨fact,Ja,kids,leaf⟩=⟨(dr ⟨fact,Ja,kids,leaf⟩).toArray⟩):=rfl;generalize Ah ⟨fact,Ja,kids,leaf⟩=R at*
 generalize dr ⟨fact,Ja,kids,leaf⟩=RT at*
 have nZ:Below w.heap.size w (w.alloc (.cells #[.int .i64 fact,.slice ac Ja.length cc,.slice ak kids.length ck,.bool leaf] 56)):=(za _ _).alloc (ja _) _;generalize ZY:(if leaf=true then(49:UInt8)else 48)=h0 at*
 have HX:Hid (∀(ci:Int),ci=h0.toNat->Calls Tryz.prog 122 #[.slice (some ⟨w.heap.size+1,0,none⟩) 1 1,.int .i64 fact,.int .i64 10] ((w.alloc (.cells #[.int .i64 fact,.slice ac Ja.length cc,.slice ak kids.length ck,.bool leaf] 56)).alloc (.cells #[.int .u8 ci] 5)) fun e w'=>
   ∃v,e=.returned v/\ Below w.heap.size w w'/\ Bb w' w.heap.size 56 #[.int .i64 fact,.slice ac Ja.length cc,.slice ak kids.length ck,.bool leaf]/\ Hid (w'.ownsRow w.heap.size 5 1 v (h0::Lib.itoa fact).length (Lib.byteCells (h0::Lib.itoa fact)))/\ w.heap.size+2<=w'.heap.size):=by
  intro ci hcc;subst hcc
  have hown:((w.alloc (.cells #[.int .i64 fact,.slice ac Ja.length cc,.slice ak kids.length ck,.bool leaf] 56)).alloc (.cells #[.int .u8 h0.toNat] 5)).ownsRow w.heap.size 5 1 (.slice (some ⟨w.heap.size+1,0,none⟩) 1 1) 1 [.int .u8 h0.toNat]:=by{have:=World.ownsRow_lit (base:=w.heap.size) (e:=5) (size:=1) (w.alloc (.cells #[.int .i64 fact,.slice ac Ja.length cc,.slice ak kids.length ck,.bool leaf] 56)) #[.int .u8 h0.toNat] 1 la pa rfl;simpa using this}
  have vq:Below w.heap.size w ((w.alloc (.cells #[.int .i64 fact,.slice ac Ja.length cc,.slice ak kids.length ck,.bool leaf] 56)).alloc (.cells #[.int .u8 h0.toNat] 5)):=nZ.alloc la _;refine(Tryz.strconv_AppendInt_10 w.heap.size 1 fact hf.1 hf.2 _ _ _ hown (by simp;omega) ia (hT.out.on vq)).mono ?_;rintro e w' ⟨v,rfl,ho,hb,qX⟩;refine⟨v,rfl,vq.trans hb,qX _ _ (Bb.alloc (Bb.new w _ _) _) la (Hv pa),?_,by have:=hb.size;simp at this;omega⟩;rw[ib,Nat.add_comm];exact ho
 have HE:Hid (if leaf then(49:Int)=h0.toNat else(48:Int)=h0.toNat):=by{show if leaf then(49:Int)=h0.toNat else(48:Int)=h0.toNat;cases leaf<;>(subst ZY;rfl)}
 clear ZY;cases leaf
 all_goals
  go_enter Tryz.func88,Tryz.ntmps88;go_wp2_with (go_at_call 122;refine(HX.out _ HE.out).mono ?_;rintro e w1 ⟨v1,rfl,Ff,qA,Tq,hz1⟩;refine Hid.out ?_);refine da ?_;have y1:=qA.cell 1;have y2:=qA.cell 2;have S0:Hid (AR w (w1.alloc (.cells #[.slice ac Ja.length cc,.slice ak kids.length ck] 28)) w1.heap.size #[.slice ac Ja.length cc,.slice ak kids.length ck] (h0::Lib.itoa fact) v1):=⟨Tq.out.alloc _,Ff.alloc ia _,Bb.new _ _ _⟩;have hsz1:w.heap.size+2<=w1.heap.size:=hz1;clear Tq Ff qA;go_wp2
  go_loopw [3,26] (fun v i wr=>∃j:Nat,j<=2/\ i=.int .i64 j/\ Hid (∃bs,AR w wr w1.heap.size #[.slice ac Ja.length cc,.slice ak kids.length ck] bs v/\ bs=(h0::Lib.itoa fact)++([Ja,kids].take j).flatMap fun l=>58::ji l)) (fun _ i _=>2-(intOf i).toNat)
  case atStart=>exact⟨0,ia,rfl,_,S0.out,la⟩
  case round=>
   rename World=>wq
   obtain⟨j,hj,rfl,hS⟩:=hrel;clear S0;by_cases hlt:j<2
   ·obtain⟨l,al,cl,hcell,I5,Gq,hlen,hcl,T1,PI⟩:∃(l:List Int) (al:Option Addr) (cl:Nat),(#[.slice ac Ja.length cc,.slice ak kids.length ck]:Array Value)[j]? =some (.slice al l.length cl)/\ Hid (IntsIn w w.heap.size l (.slice al l.length cl))/\ Hid (∀x∈l,yj x)/\ l.length<=1000001/\ l.length<=cl/\ cl<=maxLen/\
      Hid (([Ja,kids].take (j+1)).flatMap (fun l=>58::ji l)=([Ja,kids].take j).flatMap (fun l=>58::ji l)++58::ji l/\ (([Ja,kids].take j).flatMap fun l=>58::ji l).length<=22000001/\ (ji l).length<=22000022):=by
     rcases(by omega:j=0\/j=1)with rfl | rfl
     {exact⟨Ja,ac,cc,rfl,HC,H1,ia,c1,c2,la,la,ia⟩}
     {exact⟨kids,ak,ck,rfl,HK,H2,l2,k1,k2,la,by simp;omega,ia⟩}
    unfold maxLen at T1;obtain⟨bs,hW,nB⟩:=hS.out;have En:bs.length<=22000100:=by rw[nB];simp only[Ea,ib];have:=PI.out.2.1;omega
    have x0:wq.cell? ⟨w1.heap.size,j,none⟩=some (.slice al l.length cl):=(hW.rows.cell j).trans hcell;have HW:=da hW;have U0:=da nB;have hsw:=hW.below.size;have tN:=PI.out.2.2;clear hW nB hS hcell;go_wp2_with (at_builtin;refine wpList_append_own_at _ rfl _ _ 74 rfl w.heap.size 5 i0 (.int .u8 0) 1 1 Tryz.underlying74 GM IM JM KM rfl pa _ _ _ rfl (HW.out.own.alloc _) ⟨wq.heap.size,0,none⟩ 1 1 [.int .u8 58] rfl rfl (cell_one_new _ _ _) (by intro u hu;simp at hu;subst hu;rfl) (by unfold maxLen;omega) ia (by simp;omega) ?_;intro v2 w2 yu hgrow _ _;have S2:=da (HW.out.byte 58 _ yu hgrow);clear yu hgrow HW;refine Hid.out ?_);refine da ?_;go_wp2
    go_loopw [3,35] (fun v i wr=>∃k:Nat,k<=l.length/\ i=.int .i64 k/\ Hid (AR w wr w1.heap.size #[.slice ac Ja.length cc,.slice ak kids.length ck] (bs++[58]++ji (l.take k)) v)) (fun _ i _=>l.length-(intOf i).toNat)
    case atStart=>exact⟨0,ia,rfl,by simpa[ji]using S2⟩
    case round=>
     obtain⟨k,hk,rfl,hS⟩:=hrel;clear S2;by_cases DI:k<l.length
     ·obtain⟨b,off,rfl,Rj,hcc⟩:=Xa.one I5.out k DI
      have FH:=(hS.out.below.cell (p:=⟨b,off+k,none⟩) Rj).trans hcc;have Zp:=OI l k DI;have wT:=Gq.out l[k] (Ga DI)
      have FC:(ji (l.take k)).length<=22000000:=by{have h:=Tr (l.take k) (fun x hx=>Gq.out x (Yh hx));rw[Bc]at h;omega}
      generalize l[k]=x at*
      have Rv:=da Zp;have hlx:=Lib.itoa_length_le x wT.1 wT.2;have aA:(bs++[58]++ji (l.take k)).length<=50000000:=by simp only[Ea,ib,Cc];omega
      have abM:=da (hS.out.num hT.out x wT ia);have NA:=hS.out.below.size;clear hcc Zp hS wT
      go_wp2_with (first
       | (go_at_call 122;refine abM.out.mono ?_;rintro e w3 ⟨v3,rfl,hS3,Ym⟩;have T4:w.heap.size<=w3.heap.size:=ia)
       | (at_builtin;refine wpList_append_own_at _ rfl _ _ 74 rfl w.heap.size 5 i0 (.int .u8 0) 1 1 Tryz.underlying74 GM IM JM KM rfl pa _ _ _ rfl (hS3.out.own.alloc _) ⟨w3.heap.size,0,none⟩ 1 1 [.int .u8 44] rfl rfl (cell_one_new _ _ _) (by intro u hu;simp at hu;subst hu;rfl) (by rw[Ea];unfold maxLen;omega) (by rw[Ea];omega) (by simp;omega) ?_;intro v4 w4 Zn Wp _ _;have S4:=da (hS3.out.byte 44 _ Zn Wp);clear Zn Wp hS3))
      go_roundw
      case rel=>exact⟨k+1,ia,by go_num,by rw[Rv.out];simpa using S4⟩
      case measure=>simp[intOf];omega
     {(have Ii:k=l.length:=ia);have HS:=da (show AR w wr w1.heap.size #[.slice ac Ja.length cc,.slice ak kids.length ck] (bs++58::ji l) _ by have:=hS.out;rw[Ii,Jb]at this;simpa using this);clear hS Ii;go_wp2;go_roundw;(case rel=>exact⟨j+1,ia,by go_num,_,HS.out,by rw[U0.out,PI.out.1];simp⟩);case measure=>simp[intOf];omega}
   {(have hj2:j=2:=ia);obtain⟨bs,hW,nB⟩:=hS.out;(have hbe:bs=RT:=by rw[nB,hj2,HR.out]);rw[hbe]at hW;(have hne:RT≠[]:=by rw[HR.out];simp);have IP:=da (show R=⟨RT.toArray⟩from HW.out);have HB:=da hW.below;(rcases hW.own.2 with⟨_,h0⟩ | ⟨g,cap,cur,rfl,_,_,_,_,_,_⟩);{exact absurd (List.length_eq_zero_iff.1 h0) hne};{have hcv:=run_convert_bytes_back (P:=Tryz.prog) wq 74 9 5 ⟨g,0,none⟩ cap RT Tryz.underlying74 Tryz.underlying5 Tryz.underlying9 (fun j hj=>hW.own.cells (g:=g) rfl j _ (by simp[Lib.byteCells,hj]));clear nB hbe hW hS hne HR HW;go_wp2;go_ret;exact⟨vT IP.out.symm,HB.out⟩}}
end Go.Proofs.YtejbgoigkefnfaaGreatDoor
