/- The walk of diagram.write: the text of a node. Bounds on the numbers and on their count. -/
import Derived.Test.YtihniipjfdenbaaGreatDoorDgTM
import Derived.Test.YtihniipjfdenbaaGreatDoorShelfAB
import Derived.Deep.DeepCutAuto
import Derived.Shelf.AbstractIn
namespace Go.Proofs.YtihniipjfdenbaaGreatDoor
open Go.RowKit
theorem ret_str {a b:ByteArray}(h:a=b):Ending.returned (.string a)=.returned (.string b):=by rw[h]
abbrev TabW (w:World):Prop:=Lib.TabIs Tryz.prog w "internal/strconv.uint64pow10" .u64 Lib.pow10Tab
theorem byteInfo :(Tryz.prog.info? 5).map (fun i=>(i.zero,i.size,i.bytes))=some (some (.int .u8 0),1,1):=by kernel_rfl
theorem numsT_len :∀(l:List Int),(∀x∈l,W64 x)->(numsT l).length<=22*l.length
 | [],_=>Nat.zero_le _
 | k::l,h=>by{have h1:=Lib.itoa_length_le k (h k (by simp)).1 (h k (by simp)).2;(have h2:=numsT_len l fun x hx=>h x (List.mem_cons_of_mem _ hx));rw[numsT,List.flatMap_cons,List.length_append,List.length_append];unfold numsT at h2;simp only[List.length_cons,List.length_nil];omega}
theorem numsT_snoc (l:List Int)(k:Nat)(h:k<l.length):numsT (l.take (k+1))=numsT (l.take k)++(Lib.itoa l[k]++[44]):=by
 rw[List.take_succ_eq_append_getElem h];unfold numsT;rw[List.flatMap_append]
 simp
structure WrS (w W : World) (g : Nat) (rows : Array Value) (bs : List UInt8) (v : Value) : Prop where
 own:W.ownsRow w.heap.size 5 1 v bs.length (Lib.byteCells bs)
 below:Below w.heap.size w W
 rows:Blk W g 26 rows
theorem not_bytes {cs:Array Value}{t:TypeId}(h:t≠5):∀c fz,(Obj.cells cs t (0,0))≠Obj.cells c 5 fz:=by
 intro c fz e
 injection e with _ h2 _
 exact h h2
theorem WrS.num {w W:World}{g:Nat}{rows:Array Value}{bs:List UInt8}{v:Value}(h:WrS w W g rows bs v)(hT:Lib.TabBelow Tryz.prog w.heap.size w "internal/strconv.uint64pow10" .u64 Lib.pow10Tab)(k:Int)(hk:W64 k)(hl:bs.length≤100000000):
  Calls Tryz.prog 189 #[v,.int .i64 k,.int .i64 10] W fun e W'=>∃v',e=.returned v'/\ Hid (WrS w W' g rows (bs++Lib.itoa k) v')/\ W.heap.size<=W'.heap.size:=by
 refine(Tryz.strconv_AppendInt_10 w.heap.size bs.length k hk.1 hk.2 _ _ _ h.own h.below.size (by omega) (hT.on h.below)).mono ?_;rintro e w' ⟨v',rfl,ho,hb,hot⟩;refine⟨v',rfl,⟨?_,h.below.trans hb,hot _ _ h.rows (by simp) (not_bytes (by decide))⟩,hb.size⟩;rw[List.length_append,Lib.byteCells_append];exact ho
theorem WrS.byte {w W W':World}{g:Nat}{rows:Array Value}{bs:List UInt8}{v v':Value}(h:WrS w W g rows bs v)(c:UInt8)(o:Obj)(ho:W'.ownsRow w.heap.size 5 1 v' (bs.length+1) (Lib.byteCells bs++[.int .u8 c.toNat]))(hg:(W.alloc o).grownBy W' v.ownBlock):WrS w W' g rows (bs++[c]) v':=by
 refine⟨by rw[List.length_append,Lib.byteCells_append];exact ho,(h.below.alloc h.below.size o).grown hg (by rw[World.size_alloc];have:=h.below.size;omega) (fun k hk=>(h.own.lt k hk).1),?_⟩;refine Blk.grown (Blk.alloc h.rows o) hg fun e=>?_
 have hr:=h.rows;rcases h.own.2 with⟨rfl,_⟩ | ⟨g',cap,cur,rfl,_,hgb,_⟩
 {simp[Value.ownBlock]at e}
 {(have:g=g':=by simpa[Value.ownBlock]using e);subst this;have hr:W.heap[g]? =_:=hr;rw[hgb]at hr;injection hr with hr;injection hr with _ hr _;exact absurd hr (by decide)}
set_option maxRecDepth 100000 in
set_option maxHeartbeats 4000000 in
theorem write_any (n:Dn)(vc vk:Value)(w:World)(hc:IntsIn w w.heap.size n.cuts vc)(hk:IntsIn w w.heap.size n.kids vk)(hf:W64 n.fact)(h1:∀x∈n.cuts,W64 x)(h2:∀x∈n.kids,W64 x)
  (l1:n.cuts.length<=1000000) (l2:n.kids.length<=1000001) (htab:TabW w):
  Calls Tryz.prog 154 #[.agg #[.int .i64 n.fact,vc,vk,.bool n.leaf]] w fun e w'=>e=.returned (.string (writeD n))/\ Below w.heap.size w w':=by
 obtain⟨ac,cc,rfl,c1,c2,_⟩:=SlIn.shape hc;obtain⟨ak,ck,rfl,k1,k2,_⟩:=SlIn.shape hk;have hT:=Lib.hid (Lib.tabBelow_of_tabIs htab);obtain⟨i0,ib0,ib1,ib2,ib3⟩:=info_parts byteInfo;obtain⟨fact,cuts,kids,leaf⟩:=n;have HC:=Lib.hid hc;have HK:=Lib.hid hk;have H1:=Lib.hid h1;have H2:=Lib.hid h2;have lf:=Lib.itoa_length_le fact hf.1 hf.2;have hn1:=numsT_len cuts h1;have hn2:=numsT_len kids h2;clear hc hk h1 h2 htab;simp only at HC HK H1 H2 l1 l2 c1 k1 hf lf hn1 hn2
 have HR:Hid (writeT ⟨fact,cuts,kids,leaf⟩=((if leaf then 49 else 48)::Lib.itoa fact)++([cuts,kids].take 2).flatMap fun l=>58::numsT l):=by{show _=_;unfold writeT;simp}
 have HW:Hid (writeD ⟨fact,cuts,kids,leaf⟩=⟨(writeT ⟨fact,cuts,kids,leaf⟩).toArray⟩):=rfl;generalize writeD ⟨fact,cuts,kids,leaf⟩=R at*
 generalize writeT ⟨fact,cuts,kids,leaf⟩=RT at*
 have hB0:Below w.heap.size w (w.alloc (.cells #[.int .i64 fact,.slice ac cuts.length cc,.slice ak kids.length ck,.bool leaf] 106)):=(Below.refl _ _).alloc (Nat.le_refl _) _;generalize hx0:(if leaf=true then(49:UInt8)else 48)=h0 at*
 have HX:Hid (∀(ci:Int),ci=h0.toNat->Calls Tryz.prog 189 #[.slice (some ⟨w.heap.size+1,0,none⟩) 1 1,.int .i64 fact,.int .i64 10] ((w.alloc (.cells #[.int .i64 fact,.slice ac cuts.length cc,.slice ak kids.length ck,.bool leaf] 106)).alloc (.cells #[.int .u8 ci] 5)) fun e w'=>
   ∃v,e=.returned v/\ Below w.heap.size w w'/\ Blk w' w.heap.size 106 #[.int .i64 fact,.slice ac cuts.length cc,.slice ak kids.length ck,.bool leaf]/\ Hid (w'.ownsRow w.heap.size 5 1 v (h0::Lib.itoa fact).length (Lib.byteCells (h0::Lib.itoa fact)))/\ w.heap.size+2<=w'.heap.size):=by
  intro ci hcc;subst hcc
  have hown:((w.alloc (.cells #[.int .i64 fact,.slice ac cuts.length cc,.slice ak kids.length ck,.bool leaf] 106)).alloc (.cells #[.int .u8 h0.toNat] 5)).ownsRow w.heap.size 5 1 (.slice (some ⟨w.heap.size+1,0,none⟩) 1 1) 1 [.int .u8 h0.toNat]:=by{have:=World.ownsRow_lit (base:=w.heap.size) (e:=5) (size:=1) (w.alloc (.cells #[.int .i64 fact,.slice ac cuts.length cc,.slice ak kids.length ck,.bool leaf] 106)) #[.int .u8 h0.toNat] 1 (by simp) (by decide) rfl;simpa using this}
  have hB1:Below w.heap.size w ((w.alloc (.cells #[.int .i64 fact,.slice ac cuts.length cc,.slice ak kids.length ck,.bool leaf] 106)).alloc (.cells #[.int .u8 h0.toNat] 5)):=hB0.alloc (by simp) _;refine(Tryz.strconv_AppendInt_10 w.heap.size 1 fact hf.1 hf.2 _ _ _ hown (by simp;omega) (by omega) (hT.out.on hB1)).mono ?_;rintro e w' ⟨v,rfl,ho,hb,hot⟩;refine⟨v,rfl,hB1.trans hb,hot _ _ (Blk.alloc (Blk.new w _ _) _) (by simp) (not_bytes (by decide)),?_,by have:=hb.size;simp at this;omega⟩;rw[List.length_cons,Nat.add_comm];exact ho
 have HE:Hid (if leaf then(49:Int)=h0.toNat else(48:Int)=h0.toNat):=by{show if leaf then(49:Int)=h0.toNat else(48:Int)=h0.toNat;cases leaf<;>(subst hx0;rfl)}
 clear hx0;cases leaf
 all_goals
  go_enter Tryz.func154,Tryz.ntmps154;go_wp2_with (go_at_call 189;refine(HX.out _ HE.out).mono ?_;rintro e w1 ⟨v1,rfl,hb1,hbox,hown1,hz1⟩;refine Hid.out ?_);refine Lib.hid ?_;have y1:=hbox.cell 1;have y2:=hbox.cell 2;have S0:Hid (WrS w (w1.alloc (.cells #[.slice ac cuts.length cc,.slice ak kids.length ck] 26)) w1.heap.size #[.slice ac cuts.length cc,.slice ak kids.length ck] (h0::Lib.itoa fact) v1):=⟨hown1.out.alloc _,hb1.alloc (by omega) _,Blk.new _ _ _⟩;have hsz1:w.heap.size+2<=w1.heap.size:=hz1;clear hown1 hb1 hbox;go_wp2
  go_loopw [3,26] (fun v i wr=>∃j:Nat,j<=2/\ i=.int .i64 j/\ Hid (∃bs,WrS w wr w1.heap.size #[.slice ac cuts.length cc,.slice ak kids.length ck] bs v/\ bs=(h0::Lib.itoa fact)++([cuts,kids].take j).flatMap fun l=>58::numsT l)) (fun _ i _=>2-(intOf i).toNat)
  case atStart=>exact⟨0,by omega,rfl,_,S0.out,by simp⟩
  case round=>
   rename World=>wq
   obtain⟨j,hj,rfl,hS⟩:=hrel;clear S0;by_cases hlt:j<2
   ·obtain⟨l,al,cl,hcell,hints,h64,hlen,hcl,hcl2,hpre⟩:∃(l:List Int) (al:Option Addr) (cl:Nat),(#[.slice ac cuts.length cc,.slice ak kids.length ck]:Array Value)[j]? =some (.slice al l.length cl)/\ Hid (IntsIn w w.heap.size l (.slice al l.length cl))/\ Hid (∀x∈l,W64 x)/\ l.length<=1000001/\ l.length<=cl/\ cl<=maxLen/\
      Hid (([cuts,kids].take (j+1)).flatMap (fun l=>58::numsT l)=([cuts,kids].take j).flatMap (fun l=>58::numsT l)++58::numsT l/\ (([cuts,kids].take j).flatMap fun l=>58::numsT l).length<=22000001/\ (numsT l).length<=22000022):=by
     rcases(by omega:j=0\/j=1)with rfl | rfl
     {exact⟨cuts,ac,cc,rfl,HC,H1,(by omega),c1,c2,by simp,by simp,by omega⟩}
     {exact⟨kids,ak,ck,rfl,HK,H2,l2,k1,k2,by simp,by simp;omega,by omega⟩}
    unfold maxLen at hcl2;obtain⟨bs,hW,hbs⟩:=hS.out;have hbl:bs.length<=22000100:=by rw[hbs];simp only[List.length_append,List.length_cons];have:=hpre.out.2.1;omega
    have x0:wq.cell? ⟨w1.heap.size,j,none⟩=some (.slice al l.length cl):=(hW.rows.cell j).trans hcell;have HW:=Lib.hid hW;have HBS:=Lib.hid hbs;have hsw:=hW.below.size;have hln:=hpre.out.2.2;clear hW hbs hS hcell;go_wp2_with (at_builtin;refine wpList_append_own_at _ rfl _ _ 178 rfl w.heap.size 5 i0 (.int .u8 0) 1 1 Tryz.underlying178 ib0 ib1 ib2 ib3 rfl (by decide) _ _ _ rfl (HW.out.own.alloc _) ⟨wq.heap.size,0,none⟩ 1 1 [.int .u8 58] rfl rfl (cell_one_new _ _ _) (by intro u hu;simp at hu;subst hu;rfl) (by unfold maxLen;omega) (by omega) (by simp;omega) ?_;intro v2 w2 hown2 hgrow _ _;have S2:=Lib.hid (HW.out.byte 58 _ hown2 hgrow);clear hown2 hgrow HW;refine Hid.out ?_);refine Lib.hid ?_;go_wp2
    go_loopw [3,35] (fun v i wr=>∃k:Nat,k<=l.length/\ i=.int .i64 k/\ Hid (WrS w wr w1.heap.size #[.slice ac cuts.length cc,.slice ak kids.length ck] (bs++[58]++numsT (l.take k)) v)) (fun _ i _=>l.length-(intOf i).toNat)
    case atStart=>exact⟨0,by omega,rfl,by simpa[numsT]using S2⟩
    case round=>
     obtain⟨k,hk,rfl,hS⟩:=hrel;clear S2;by_cases hklt:k<l.length
     ·obtain⟨b,off,rfl,hbB,hcc⟩:=SlIn.one hints.out k hklt
      have hcc2:=(hS.out.below.cell (p:=⟨b,off+k,none⟩) hbB).trans hcc;have hsn:=numsT_snoc l k hklt;have hx64:=h64.out l[k] (List.getElem_mem hklt)
      have hpl:(numsT (l.take k)).length<=22000000:=by{have h:=numsT_len (l.take k) (fun x hx=>h64.out x (List.mem_of_mem_take hx));rw[List.length_take]at h;omega}
      generalize l[k]=x at*
      have HSN:=Lib.hid hsn;have hlx:=Lib.itoa_length_le x hx64.1 hx64.2;have hll:(bs++[58]++numsT (l.take k)).length<=50000000:=by simp only[List.length_append,List.length_cons,List.length_nil];omega
      have HNUM:=Lib.hid (hS.out.num hT.out x hx64 (by omega));have hsr:=hS.out.below.size;clear hcc hsn hS hx64
      go_wp2_with (first
       | (go_at_call 189;refine HNUM.out.mono ?_;rintro e w3 ⟨v3,rfl,hS3,hz3⟩;have hsz3:w.heap.size<=w3.heap.size:=by omega)
       | (at_builtin;refine wpList_append_own_at _ rfl _ _ 178 rfl w.heap.size 5 i0 (.int .u8 0) 1 1 Tryz.underlying178 ib0 ib1 ib2 ib3 rfl (by decide) _ _ _ rfl (hS3.out.own.alloc _) ⟨w3.heap.size,0,none⟩ 1 1 [.int .u8 44] rfl rfl (cell_one_new _ _ _) (by intro u hu;simp at hu;subst hu;rfl) (by rw[List.length_append];unfold maxLen;omega) (by rw[List.length_append];omega) (by simp;omega) ?_;intro v4 w4 hown4 hgrow4 _ _;have S4:=Lib.hid (hS3.out.byte 44 _ hown4 hgrow4);clear hown4 hgrow4 hS3))
      go_roundw
      case rel=>exact⟨k+1,by omega,by go_num,by rw[HSN.out];simpa using S4⟩
      case measure=>simp[intOf];omega
     {(have hke:k=l.length:=by omega);have HS:=Lib.hid (show WrS w wr w1.heap.size #[.slice ac cuts.length cc,.slice ak kids.length ck] (bs++58::numsT l) _ by have:=hS.out;rw[hke,List.take_length]at this;simpa using this);clear hS hke;go_wp2;go_roundw;(case rel=>exact⟨j+1,by omega,by go_num,_,HS.out,by rw[HBS.out,hpre.out.1];simp⟩);case measure=>simp[intOf];omega}
   {(have hj2:j=2:=by omega);obtain⟨bs,hW,hbs⟩:=hS.out;(have hbe:bs=RT:=by rw[hbs,hj2,HR.out]);rw[hbe]at hW;(have hne:RT≠[]:=by rw[HR.out];simp);have HEND:=Lib.hid (show R=⟨RT.toArray⟩from HW.out);have HB:=Lib.hid hW.below;(rcases hW.own.2 with⟨_,h0⟩ | ⟨g,cap,cur,rfl,_,_,_,_,_,_⟩);{exact absurd (List.length_eq_zero_iff.1 h0) hne};{have hcv:=run_convert_bytes_back (P:=Tryz.prog) wq 178 9 5 ⟨g,0,none⟩ cap RT Tryz.underlying178 Tryz.underlying5 Tryz.underlying9 (fun j hj=>hW.own.cells (g:=g) rfl j _ (by simp[Lib.byteCells,hj]));clear hbs hbe hW hS hne HR HW;go_wp2;go_ret;exact⟨ret_str HEND.out.symm,HB.out⟩}}
end Go.Proofs.YtihniipjfdenbaaGreatDoor
