/- The walk of law15.RankMatters. No conditions. -/
import Derived.Test.YtmafmhlfjficmaaGreatDoorRkMt
import Derived.Test.YtmafmhlfjficmaaGreatDoorRankBestW
namespace Go.Proofs.YtmafmhlfjficmaaGreatDoor
open Go.RowKit
theorem siz_map {d:List Fa}{ps:List Pv}(h:fewL d ps 8=true):SizL (ps.map pvM):=by
 have hl:=(siz_of h).len;unfold fewL at h;simp only[Bool.and_eq_true,decide_eq_true_eq,List.all_eq_true]at h;obtain⟨_,h3⟩:=h;refine⟨by rw[List.length_map];exact hl,fun x hx=>?_⟩;obtain⟨p,hp,rfl⟩:=List.mem_map.1 hx;have:=h3 p hp;unfold fewP at this;simp only[Bool.and_eq_true,decide_eq_true_eq]at this;have h5:=smallF_size (most:=250) this.1.1.1.1
 show(nnF p.cond).size<=1000000
 rw[nn_size];omega
theorem sameB_refl :∀l:List ByteArray,sameB l l=true
 | []=>rfl
 | a::l=>by rw[sameB,sameB_refl l,Bool.and_true];exact eqB_iff.2 rfl
theorem rev_step {l:List ByteArray}{m:Nat}(h:m<l.length):(l.drop m).reverse=(l.drop (m+1)).reverse++[l[m]]:=by
 rw[List.drop_eq_getElem_cons h,List.reverse_cons]
theorem own_shape' {W:World}{base e size n:Nat}{v:Value}{xs:List Value}(h:W.ownsRow base e size v n xs):∃a k c,v=.slice a k c:=by
 rcases h.2 with⟨rfl,_⟩ | ⟨g,cap,cur,rfl,_⟩
 ·exact⟨_,_,_,rfl⟩
 ·exact⟨_,_,_,rfl⟩
theorem own_next {W:World}{base e size n:Nat}{v:Value}{xs:List Value}(h:W.ownsRow base e size v (n+1) xs):∃g cap,v=.slice (some ⟨g,0,none⟩) (n+1) cap:=by
 rcases h.2 with⟨_,h0⟩ | ⟨g,cap,cur,hv,_⟩
 ·cases h0
 ·exact⟨g,cap,hv⟩
theorem blk_far {W:World}{b B i:Nat}{t:TypeId}{cs:Array Value}{u:Value}(h:Blk W b t cs)(hne:b≠B):Blk (W.setCell ⟨B,i,none⟩ u) b t cs:=by
 show(W.heap.modify B _)[b]? =_
 rw[Array.getElem?_modify,if_neg (fun e=>hne e.symm)];exact h
section
variable {w W W' : World} {b : Nat} {d : List Fa} {ps : List Pv} {ts : List Int} {v : Value} {cs : Array Value}
theorem lwl_whyB (h:Hid (LwL w W b d ps ts v cs))(hs:Hid (SizL ps))(i j:Int){x e0:Int}(hx:whyA d ps ts i j=(x,e0)):Calls Tryz.prog 14 #[v,.int .i64 i,.int .i64 j] W fun e W'=>e=.returned (.tuple #[.int .i64 x,.int .i64 e0])/\ Hid (Below W.heap.size W W'):=by
 have:=hs.out.len;refine(why_any d ps ts i j v W (by omega) h.out.law hs.out.size h.out.tab).mono ?_;rintro e w' ⟨rfl,hb⟩;exact⟨by rw[hx],hb⟩
theorem lwl_bestB {ids:List ByteArray}{u:Value}(h:Hid (LwL w W b d ps ts v cs))(hs:Hid (SizL ps))(hu:Hid (StrsIn W W.heap.size ids u)){out:List ByteArray}{er:Int}(hx:bestA d ps ts ids=(out,er)):
  Calls Tryz.prog 18 #[v,u] W fun e W'=>∃(a:Option Addr) (c:Nat),e=.returned (.tuple #[.slice a out.length c,.int .i64 er])/\ Hid (Below W.heap.size W W')/\ Hid (StrsIn W' W'.heap.size out (.slice a out.length c)):=by
 have:=hs.out.len;refine(best_any d ps ts ids v u W (by omega) h.out.law hu.out hs.out.size h.out.tab).mono ?_;rintro e w' ⟨x,rfl,hb,hs⟩;rw[hx]at hs⊢;obtain⟨a,c,rfl,_⟩:=SlIn.shape hs;exact⟨a,c,rfl,hb,hs⟩
end
set_option maxRecDepth 100000 in
set_option maxHeartbeats 8000000 in
theorem rankMatters_any {d:List Fa}{ps:List Pv}{ts:List Int}{v:Value}(w:World)(hl:LawT w w.heap.size d ps ts v){a b:Int}(_:W64 a)(_:W64 b){ids:List ByteArray}{u:Value}(hu:StrsIn w w.heap.size ids u)(hT:TabH w.heap.size w):
  Calls Tryz.prog 7 #[v,.int .i64 a,.int .i64 b,u] w fun e w'=>e=.returned (.bool true)/\ Below w.heap.size w w':=by
 have HL0:=Lib.hid hl;obtain⟨u1,u2,u3,rfl,hd,hp,ht⟩:=hl;obtain⟨ad,cd,rfl,_⟩:=SlIn.shape hd;obtain⟨ap,cp,rfl,p1,p2,_⟩:=SlIn.shape hp;obtain⟨at_,ct,rfl,_⟩:=SlIn.shape ht;have HD:=Lib.hid hd;have HP:=Lib.hid hp;have HTS:=Lib.hid ht;have HU:=Lib.hid hu;have HT:=Lib.hid hT;obtain⟨ai,ci,rfl,_,_,_⟩:=SlIn.shape hu;have HL:=lwl_start (cs:=#[.slice ad d.length cd,.slice ap ps.length cp,.slice at_ ts.length ct]) HL0.out hT;have y0:=HL.out.box.cell 0;have y1:=HL.out.box.cell 1;have y2:=HL.out.box.cell 2;clear hd hp ht hT hu;obtain⟨⟨x1,e1⟩,h1⟩:∃X,whyA d ps ts a b=X:=⟨_,rfl⟩;obtain⟨⟨x2,e2⟩,h2⟩:∃X,whyA d (ps.map pvM) ts a b=X:=⟨_,rfl⟩;obtain⟨⟨s3,e3⟩,h3⟩:∃X,bestA d ps ts ids=X:=⟨_,rfl⟩;obtain⟨⟨s4,e4⟩,h4⟩:∃X,bestA d (ps.map pvM) ts ids.reverse=X:=⟨_,rfl⟩;have C1:=Lib.hid h1;have C2:=Lib.hid h2;have C3:=Lib.hid h3;have C4:=Lib.hid h4;clear h1 h2 h3 h4;cases hf:fewL d ps 8 with
 | false=>
  go_enter Tryz.func7,Tryz.ntmps7;go_upto_region 2 with(go_at_call 9;refine(lwl_head HL).mono ?_;rintro e w2 ⟨rfl,HL2⟩;(clear y0 y1 y2;have HL:=HL2;clear HL2;(have y0:=HL.out.box.cell 0;have y1:=HL.out.box.cell 1;have y2:=HL.out.box.cell 2)));go_wp2_with (go_at_call 10;refine(lwl_few HL hf).mono ?_;rintro e w2 ⟨rfl,HL2⟩);go_ret;exact⟨rfl,HL2.out.low⟩
 | true=>
  have HS:=Lib.hid (siz_of hf);have HF:=Lib.hid hf;have HSM:=Lib.hid (siz_map hf);clear hf;by_cases hcl:(20:Int)<(ids.length:Int)
  ·have k0:decide ((20:Int)<(ids.length:Int))=true:=decide_eq_true hcl
   clear hcl;go_enter Tryz.func7,Tryz.ntmps7;go_upto_region 2 with(go_at_call 9;refine(lwl_head HL).mono ?_;rintro e w2 ⟨rfl,HL2⟩;(clear y0 y1 y2;have HL:=HL2;clear HL2;(have y0:=HL.out.box.cell 0;have y1:=HL.out.box.cell 1;have y2:=HL.out.box.cell 2)));go_wp2_with (go_at_call 10;refine(lwl_few HL HF.out).mono ?_;rintro e w2 ⟨rfl,HL2⟩;(clear y0 y1 y2;have HL:=HL2;clear HL2;(have y0:=HL.out.box.cell 0;have y1:=HL.out.box.cell 1;have y2:=HL.out.box.cell 2)));go_ret;exact⟨rfl,HL.out.low⟩
  ·have k0:decide ((20:Int)<(ids.length:Int))=false:=decide_eq_false hcl
   have hil:ids.length<=20:=by omega
   clear hcl;have hpl:=HS.out.len;go_enter Tryz.func7,Tryz.ntmps7;go_upto_region 2 with(go_at_call 9;refine(lwl_head HL).mono ?_;rintro e w2 ⟨rfl,HL2⟩;(clear y0 y1 y2;have HL:=HL2;clear HL2;(have y0:=HL.out.box.cell 0;have y1:=HL.out.box.cell 1;have y2:=HL.out.box.cell 2)));go_upto_region 4 with(go_at_call 10;refine(lwl_few HL HF.out).mono ?_;rintro e w2 ⟨rfl,HL2⟩;(clear y0 y1 y2;have HL:=HL2;clear HL2;(have y0:=HL.out.box.cell 0;have y1:=HL.out.box.cell 1;have y2:=HL.out.box.cell 2)));rename World=>w3
   have hw3:w.heap.size<w3.heap.size:=HL.out.box.lt;go_upto_region 6 with(fail);have HK3:=Lib.hid (HL.out.box.alloc (.cells #[.slice ad d.length cd,.slice none 0 0,.slice at_ ts.length ct] 28));have HB3:=Lib.hid (HL.out.low.trans ((Below.refl _ _).alloc (B:=w.heap.size) (by omega) (.cells #[.slice ad d.length cd,.slice none 0 0,.slice at_ ts.length ct] 28)))
   have HM3:Hid (LawM w (w3.alloc (.cells #[.slice ad d.length cd,.slice none 0 0,.slice at_ ts.length ct] 28)) w3.heap.size ps 0 (.slice ad d.length cd) (.slice at_ ts.length ct) (.slice none 0 0) []):=
    ⟨⟨rfl,.inl ⟨rfl,rfl⟩⟩,rfl,fun i hi=>(by cases hi),Blk.new w3 _ _⟩
   obtain⟨ip,zp,hip,hsp_,hzp,hzc,hbp⟩:=pv_info;obtain⟨i0,hi0,hx0,hx1,hx2⟩:=info_parts strInfo;clear k0 y0 y1 y2 HL;have y1:=HK3.out.cell 1;go_wp2
   go_loopw [11] (fun iv wr=>∃(k:Nat) (bv:Value) (xs:List PvA),k<=ps.length/\ iv=.int .i64 k/\ Hid (LawM w wr w3.heap.size ps k (.slice ad d.length cd) (.slice at_ ts.length ct) bv xs)/\ Hid (Below w.heap.size w wr)/\ Hid (Blk wr w.heap.size 28 #[.slice ad d.length cd,.slice ap ps.length cp,.slice at_ ts.length ct])) (fun iv _=>ps.length-(intOf iv).toNat)
   case atStart=>exact⟨0,_,[],Nat.zero_le _,rfl,HM3,HB3,HK3⟩
   case round=>
    rename World=>wA
    obtain⟨k,bv,xs,hk,rfl,HM,HB,HK⟩:=hrel;obtain⟨ba,bn,bc,rfl⟩:=own_shape' HM.out.row;clear y1 HM3 HB3 HK3;have y1:=HK.out.cell 1;have hbA:w3.heap.size<wA.heap.size:=HM.out.blk.lt;by_cases hlt:k<ps.length
    ·obtain⟨b0,off,rfl,hbB,ak,ck,ae,ce,hr0,hcf,_,hzz⟩:=SlIn.at HP.out k hlt
     have hr:wA.rangeAt b0 (off+k*23) (pvC ps[k] ak ck ae ce):=fun j v hv=>(HB.out.cell (p:=⟨b0,off+k*23+j,none⟩) hbB).trans (hr0 j v hv)
     have hxl:xs.length<=8:=by have:=HM.out.len;omega
     have HPU:=Lib.hid (fun(W:World) (x:PvA) (w9:World) (v9:Value) (h:LawM w W w3.heap.size ps k (.slice ad d.length cd) (.slice at_ ts.length ct) (.slice ba bn bc) xs) (hx:OkM w W x ps[k]) h1 h2=>h.push (x:=x) (w9:=w9) (v9:=v9) hlt hx h1 h2);have hkl:(k:Int)<=8:=by omega
     generalize ps[k]=p at*
     have HRG:=Lib.hid hr;have HCF:=Lib.hid hcf;have HZZ:=Lib.hid hzz.1;clear hr hr0 hcf hzz;have m1:=HM.out.blk.cell 1
     go_upto_region 10 with(first
      | ((with_reducible show wpList _ _ _ (⟨_,Op.load 50 (.tmp 46),_,_,_,_⟩::_) _ _);refine wpList_load_pv rfl (.tmp 46) rfl rfl p ak ck ae ce HRG.out Tryz.underlying50 rfl Pv.info ?_)
      | ((with_reducible show wpList _ _ _ (⟨_,Op.store 50 (.tmp 12) (.tmp 47),_,_,_,_⟩::_) _ _);refine wpList_store_pv rfl (.tmp 12) (.tmp 47) rfl p ak ck ae ce rfl rfl ?hs1 Pv.info ?_;(case hs1=>rfl);intro W1 hb1 hz1 hr1 hf1;have e1_0:=hr1 0 _ rfl;have e1_1:=hr1 1 _ rfl;have e1_5:=hr1 5 _ rfl;have e1_6:=hr1 6 _ rfl;have e1_7:=hr1 7 _ rfl;have e1_8:=hr1 8 _ rfl;have e1_9:=hr1 9 _ rfl;have HR1:=Lib.hid hr1;clear hr1))
     have HM1:=Lib.hid (HM.out.below hb1);have hs1:wA.heap.size<W1.heap.size:=cell_lt e1_0;have n1:=HM1.out.blk.cell 1;clear m1 y1 hz1;go_upto_region 11 with(fail);have hbd:Below W1.heap.size W1 (((W1.alloc (.cells #[.int .i64 p.cond.op,.string p.cond.name,.int .i64 p.cond.cmp,.int .i64 p.cond.n,.slice ak p.cond.kids.length ck] 45)).alloc (.cells #[.int .i64 5,.string (⟨#[]⟩:ByteArray),.int .i64 0,.int .i64 0,.slice (some ⟨W1.heap.size,0,none⟩) 1 1] 45)).alloc (.cells #[.int .i64 5,.string (⟨#[]⟩:ByteArray),.int .i64 0,.int .i64 0,.slice (some ⟨W1.heap.size+1,0,none⟩) 1 1] 45)):=(((Below.refl _ _).alloc (Nat.le_refl _) _).alloc (by simp) _).alloc (by simp;omega) _;have hbA1:=hb1.trans (hbd.mono (by omega));have HD1:Hid (Blk (((W1.alloc (.cells #[.int .i64 p.cond.op,.string p.cond.name,.int .i64 p.cond.cmp,.int .i64 p.cond.n,.slice ak p.cond.kids.length ck] 45)).alloc (.cells #[.int .i64 5,.string (⟨#[]⟩:ByteArray),.int .i64 0,.int .i64 0,.slice (some ⟨W1.heap.size,0,none⟩) 1 1] 45)).alloc (.cells #[.int .i64 5,.string (⟨#[]⟩:ByteArray),.int .i64 0,.int .i64 0,.slice (some ⟨W1.heap.size+1,0,none⟩) 1 1] 45)) W1.heap.size 45 #[.int .i64 p.cond.op,.string p.cond.name,.int .i64 p.cond.cmp,.int .i64 p.cond.n,.slice ak p.cond.kids.length ck]):=((Blk.new W1 _ _).alloc _).alloc _
     have HD2:Hid (Blk (((W1.alloc (.cells #[.int .i64 p.cond.op,.string p.cond.name,.int .i64 p.cond.cmp,.int .i64 p.cond.n,.slice ak p.cond.kids.length ck] 45)).alloc (.cells #[.int .i64 5,.string (⟨#[]⟩:ByteArray),.int .i64 0,.int .i64 0,.slice (some ⟨W1.heap.size,0,none⟩) 1 1] 45)).alloc (.cells #[.int .i64 5,.string (⟨#[]⟩:ByteArray),.int .i64 0,.int .i64 0,.slice (some ⟨W1.heap.size+1,0,none⟩) 1 1] 45)) (W1.heap.size+1) 45 #[.int .i64 5,.string (⟨#[]⟩:ByteArray),.int .i64 0,.int .i64 0,.slice (some ⟨W1.heap.size,0,none⟩) 1 1]):=by
      have:=(Blk.new (W1.alloc (.cells #[.int .i64 p.cond.op,.string p.cond.name,.int .i64 p.cond.cmp,.int .i64 p.cond.n,.slice ak p.cond.kids.length ck] 45)) 45 #[.int .i64 5,.string (⟨#[]⟩:ByteArray),.int .i64 0,.int .i64 0,.slice (some ⟨W1.heap.size,0,none⟩) 1 1]).alloc (.cells #[.int .i64 5,.string (⟨#[]⟩:ByteArray),.int .i64 0,.int .i64 0,.slice (some ⟨W1.heap.size+1,0,none⟩) 1 1] 45)
      rwa[World.size_alloc]at this
     have HD3:Hid (Blk (((W1.alloc (.cells #[.int .i64 p.cond.op,.string p.cond.name,.int .i64 p.cond.cmp,.int .i64 p.cond.n,.slice ak p.cond.kids.length ck] 45)).alloc (.cells #[.int .i64 5,.string (⟨#[]⟩:ByteArray),.int .i64 0,.int .i64 0,.slice (some ⟨W1.heap.size,0,none⟩) 1 1] 45)).alloc (.cells #[.int .i64 5,.string (⟨#[]⟩:ByteArray),.int .i64 0,.int .i64 0,.slice (some ⟨W1.heap.size+1,0,none⟩) 1 1] 45)) (W1.heap.size+1+1) 45 #[.int .i64 5,.string (⟨#[]⟩:ByteArray),.int .i64 0,.int .i64 0,.slice (some ⟨W1.heap.size+1,0,none⟩) 1 1]):=by
      have:=Blk.new ((W1.alloc (.cells #[.int .i64 p.cond.op,.string p.cond.name,.int .i64 p.cond.cmp,.int .i64 p.cond.n,.slice ak p.cond.kids.length ck] 45)).alloc (.cells #[.int .i64 5,.string (⟨#[]⟩:ByteArray),.int .i64 0,.int .i64 0,.slice (some ⟨W1.heap.size,0,none⟩) 1 1] 45)) 45 #[.int .i64 5,.string (⟨#[]⟩:ByteArray),.int .i64 0,.int .i64 0,.slice (some ⟨W1.heap.size+1,0,none⟩) 1 1]
      rwa[World.size_alloc,World.size_alloc]at this
     have q0:=(hbd.cell (p:=⟨wA.heap.size,0,none⟩) hs1).trans e1_0;have q1:=(hbd.cell (p:=⟨wA.heap.size,1,none⟩) hs1).trans e1_1;have HMD:=Lib.hid (HM1.out.below hbd);have HBD:=Lib.hid (HB.out.trans (hbA1.mono (by omega)));have HKD:=Lib.hid (HK.out.below hbA1);obtain⟨Wd,hWd⟩:∃Wd,(((W1.alloc (.cells #[.int .i64 p.cond.op,.string p.cond.name,.int .i64 p.cond.cmp,.int .i64 p.cond.n,.slice ak p.cond.kids.length ck] 45)).alloc (.cells #[.int .i64 5,.string (⟨#[]⟩:ByteArray),.int .i64 0,.int .i64 0,.slice (some ⟨W1.heap.size,0,none⟩) 1 1] 45)).alloc (.cells #[.int .i64 5,.string (⟨#[]⟩:ByteArray),.int .i64 0,.int .i64 0,.slice (some ⟨W1.heap.size+1,0,none⟩) 1 1] 45))=Wd:=⟨_,rfl⟩;rw[hWd]at HD1 HD2 HD3 q0 q1 HMD HBD HKD⊢;obtain⟨k1,hk1⟩:∃k1,W1.heap.size=k1:=⟨_,rfl⟩;rw[hk1]at HD1 HD2 HD3⊢;have HDA:Hid (k1<Wd.heap.size/\ w3.heap.size<Wd.heap.size):=⟨HD1.out.lt,HMD.out.blk.lt⟩;have n1:=HMD.out.blk.cell 1;have r0:=HD3.out.cell 0;have r1:=HD3.out.cell 1;have r2:=HD3.out.cell 2;have r3:=HD3.out.cell 3;have r4:=HD3.out.cell 4;clear hWd hk1 hbd hbA1 HB HK HM HM1 e1_0 e1_1 e1_5 e1_6 e1_7 e1_8 e1_9 hf1 hb1 HR1 hs1;have hbE:Below Wd.heap.size Wd ((Wd.alloc (.cells #[.string (⟨#[120]⟩:ByteArray)] 9)).alloc (.cells ((pvC (pvM p) (some ⟨k1+1,0,none⟩) 1 (some ⟨Wd.heap.size,0,none⟩) 1)).toArray 50)):=((Below.refl _ _).alloc (Nat.le_refl _) _).alloc (by simp) _;have HXB:Hid (Blk ((Wd.alloc (.cells #[.string (⟨#[120]⟩:ByteArray)] 9)).alloc (.cells ((pvC (pvM p) (some ⟨k1+1,0,none⟩) 1 (some ⟨Wd.heap.size,0,none⟩) 1)).toArray 50)) Wd.heap.size 9 #[.string xB]):=(Blk.new Wd 9 #[.string xB]).alloc _;have HME:=Lib.hid (HMD.out.below hbE);have HBE:=Lib.hid (HBD.out.trans (hbE.mono HBD.out.size));have HKE:=Lib.hid (HKD.out.below hbE);have HOK:Hid (OkM w ((Wd.alloc (.cells #[.string (⟨#[120]⟩:ByteArray)] 9)).alloc (.cells ((pvC (pvM p) (some ⟨k1+1,0,none⟩) 1 (some ⟨Wd.heap.size,0,none⟩) 1)).toArray 50)) ⟨pvM p,some ⟨k1+1,0,none⟩,1,some ⟨Wd.heap.size,0,none⟩,1⟩ p):=⟨⟨k1,k1+1,Wd.heap.size,ak,ck,rfl,HD2.out.below hbE,HD1.out.below hbE,HXB.out,HCF.out⟩,HZZ.out⟩;have hdd:=HDA.out.2;have hbs:w.heap.size<=Wd.heap.size:=HBD.out.size;clear HD1 HD2 HD3 HXB hbE
     go_wp2_with (first
      | ((with_reducible show wpList _ _ _ (⟨_,Op.build 50 _,_,_,_,_⟩::_) _ _);refine wpList_build_pvM rfl (.tmp 57) (.tmp 59) (.const (.int .i64 1)) (.const (.string (⟨#[111,116,104,101,114]⟩:ByteArray))) (.tmp 60) (.tmp 61) rfl p (k1+1) Wd.heap.size rfl rfl rfl rfl rfl rfl ?_)
      | ((with_reducible show wpList _ _ _ (⟨_,Op.buildSlice 25 1 #[(0,.tmp 62)],_,_,_,_⟩::_) _ _);refine wpList_build_pv rfl (.tmp 62) rfl (pvM p) (some ⟨k1+1,0,none⟩) 1 (some ⟨Wd.heap.size,0,none⟩) 1 rfl ?_)
      | (at_builtin;refine wpList_append_own_at _ (by rfl) (.tmp 55) (.tmp 63) 25 (by rfl) (w3.heap.size+1) 50 ip zp 23 312 Tryz.underlying25 hip hzp hsp_ hbp hzc (by omega) (.slice ba bn bc) xs.length (xs.flatMap PvA.cells) (by rfl) HME.out.row ⟨(Wd.alloc (.cells #[.string (⟨#[120]⟩:ByteArray)] 9)).heap.size,0,none⟩ 1 1 (pvC (pvM p) (some ⟨k1+1,0,none⟩) 1 (some ⟨Wd.heap.size,0,none⟩) 1) (by rfl) (by rfl) (news_blk _ _ _) (pvC_ones _ _ _ _ _) (by unfold maxLen;omega) (by omega) (by simp;omega) ?_;intro v9 w9 hown9 hgrow9 hnil9 hat9;obtain⟨g9,cap9,rfl⟩:=own_next hown9;have HK9:=Lib.hid (HME.out.blk.grown hgrow9 (fun e=>by have:=(HME.out.row.lt _ e.symm).1;omega));have s1:=HK9.out.cell 1;have s2:=HK9.out.frozen 1;have HO9:=Lib.hid hown9;have HG9:=Lib.hid hgrow9;clear hown9 hgrow9 hnil9 hat9))
     have hne9:∀g,Value.ownBlock (.slice ba bn bc)=some g->w3.heap.size<g:=fun g e=>by have:=(HME.out.row.lt g e).1;omega
     have hLE:w.heap.size<=(((Wd.alloc (.cells #[.string (⟨#[120]⟩:ByteArray)] 9)).alloc (.cells ((pvC (pvM p) (some ⟨k1+1,0,none⟩) 1 (some ⟨Wd.heap.size,0,none⟩) 1)).toArray 50))).heap.size:=HBE.out.size;have HP9:=Lib.hid (HPU.out _ _ _ _ HME.out HOK.out HO9.out HG9.out);have HL9:=Lib.hid (HME.out.low HBE.out (by omega) hLE hne9 HG9.out (.slice (some ⟨g9,0,none⟩) (xs.length+1) cap9));have HK0:=Lib.hid (blk_far (B:=w3.heap.size) (i:=1) (u:=.slice (some ⟨g9,0,none⟩) (xs.length+1) cap9) (HKE.out.grown HG9.out (fun e=>by have:=hne9 _ e.symm;omega)) (by omega));go_roundw
     case rel=>exact⟨k+1,_,_,by omega,by go_num,HP9,HL9,HK0⟩
     case measure=>simp[intOf];omega
    ·have hkn:k=ps.length:=by omega
     subst hkn;have HLM:=Lib.hid (HM.out.law HB.out HD.out HTS.out);have HLL:=lwl_re HL0 HT HB HK;have HLN:Hid (LwL w wA w3.heap.size d (ps.map pvM) ts (.agg #[.slice ad d.length cd,.slice ba bn bc,.slice at_ ts.length ct]) #[.slice ad d.length cd,.slice ba bn bc,.slice at_ ts.length ct]):=⟨HM.out.blk,HLM.out,fun w' h'=>HT.out w' (HB.out.trans (h'.mono HB.out.size)),HB.out⟩;have HUA:=lwl_strs HLL HU;clear HM HB HK HLM;go_wp2;clear hlt hk
     go_loopw [14,15] (fun sv iv wr=>∃m:Nat,m<=ids.length/\ iv=.int .i64 ((m:Int)-1)/\ Hid (StrRow wr wA.heap.size sv ((ids.drop m).reverse))/\ Hid (Below wA.heap.size wA wr)) (fun _ iv _=>((intOf iv)+1).toNat)
     case atStart=>exact⟨ids.length,Nat.le_refl _,by go_num,by rw[List.drop_length];exact StrRow.nil _ _,Below.refl _ _⟩
     case round=>
      rename World=>wB
      obtain⟨m,hm,hiv,HR,HBB⟩:=hrel;have HUB:=Lib.hid (SlIn.mono (OneR.mono _) HBB.out.size (SlIn.below (OneR.kept _) HBB.out HUA.out));have hsB:=HBB.out.size;obtain⟨ax,cx,hsv⟩:=HR.out.shape;rw[List.length_reverse,List.length_drop]at hsv;subst hsv;cases m with
      | succ m=>
       obtain⟨ib,io,rfl,_,q1⟩:=SlIn.one HUB.out m (by omega);have HRV:=Lib.hid (rev_step (l:=ids) (m:=m) (by omega));obtain rfl:u15=.int .i64 (m:Int):=by rw[hiv];congr 1;omega
       have hm0:(0:Int)<=(m:Int):=Int.natCast_nonneg _;have hm1:(m:Int)<(ids.length:Int):=by omega
       have hm2:(m:Int)<=20:=by omega
       have HRA:=Lib.hid (HR.out.kept (World.grownBy_alloc wB (.cells #[.string ids[m]] 9) none) (own_none _));have hrl:((ids.drop (m+1)).reverse).length+1<=1000000:=by rw[List.length_reverse,List.length_drop];omega
       generalize ids[m]=s at*
       clear hiv;go_wp2_with (at_builtin;refine wpList_append_str rfl (.tmp 73) (.tmp 78) rfl wA.heap.size i0 hi0 hx0 hx1 hx2 _ _ rfl HRA.out s ⟨wB.heap.size,0,none⟩ 1 rfl (Blk.new wB 9 #[.string s] |>.cell 0) hrl (by simp;omega) ?_;intro v9 w9 hrow9 hgrow9;have HR9:=Lib.hid hrow9;have HG9:=Lib.hid hgrow9;clear hrow9 hgrow9);have HB9:=Lib.hid (low_grown (HBB.out.alloc hsB (.cells #[.string s] 9)) (by simp;omega) HRA.out (Nat.le_refl _) HG9.out);go_roundw
       case rel=>exact⟨m,by omega,by go_num,by rw[HRV.out];exact HR9,HB9⟩
       case measure=>simp[intOf]
      | zero=>
       obtain rfl:u15=.int .i64 (-1):=by rw[hiv];rfl
       have HLB:=Lib.hid (HLL.out.step HBB.out);have HNB:=Lib.hid (HLN.out.step HBB.out);have HBK:=Lib.hid HR.out.strs;rw[List.drop_zero]at HBK;clear hiv HR HLL HLN HUA HBB hsB hm;rw[Nat.sub_zero]at HBK⊢
       (have y0:=HLB.out.box.cell 0;have y1:=HLB.out.box.cell 1;have y2:=HLB.out.box.cell 2;have m0:=HNB.out.box.cell 0;have m1:=HNB.out.box.cell 1;have m2:=HNB.out.box.cell 2)
       go_upto_region 18 with(go_at_call 14;refine(lwl_whyB HLB HS _ _ C1.out).mono ?_;rintro e wC ⟨rfl,HX⟩;(have HLB:=Lib.hid (HLB.out.step HX.out);have HNB:=Lib.hid (HNB.out.step HX.out);have HUB:=strs_step HUB HX.out;have HBK:=strs_step HBK HX.out;clear y0 y1 y2 m0 m1 m2;(have y0:=HLB.out.box.cell 0;have y1:=HLB.out.box.cell 1;have y2:=HLB.out.box.cell 2;have m0:=HNB.out.box.cell 0;have m1:=HNB.out.box.cell 1;have m2:=HNB.out.box.cell 2)));go_upto_region 19 with(go_at_call 14;refine(lwl_whyB HNB HSM _ _ C2.out).mono ?_;rintro e wD ⟨rfl,HX⟩;(have HLB:=Lib.hid (HLB.out.step HX.out);have HNB:=Lib.hid (HNB.out.step HX.out);have HUB:=strs_step HUB HX.out;have HBK:=strs_step HBK HX.out;clear y0 y1 y2 m0 m1 m2;(have y0:=HLB.out.box.cell 0;have y1:=HLB.out.box.cell 1;have y2:=HLB.out.box.cell 2;have m0:=HNB.out.box.cell 0;have m1:=HNB.out.box.cell 1;have m2:=HNB.out.box.cell 2)));go_upto_region 20 with(go_at_call 18;refine(lwl_bestB HLB HS HUB C3.out).mono ?_;rintro e wE ⟨a3,c3,rfl,HX,HS3⟩;(have HLB:=Lib.hid (HLB.out.step HX.out);have HNB:=Lib.hid (HNB.out.step HX.out);have HUB:=strs_step HUB HX.out;have HBK:=strs_step HBK HX.out;clear y0 y1 y2 m0 m1 m2;(have y0:=HLB.out.box.cell 0;have y1:=HLB.out.box.cell 1;have y2:=HLB.out.box.cell 2;have m0:=HNB.out.box.cell 0;have m1:=HNB.out.box.cell 1;have m2:=HNB.out.box.cell 2)));go_upto_region 21 with(go_at_call 18;refine(lwl_bestB HNB HSM HBK C4.out).mono ?_;rintro e wF ⟨a4,c4,rfl,HX,HS4⟩;have HS3:=strs_step HS3 HX.out;(have HLB:=Lib.hid (HLB.out.step HX.out);have HNB:=Lib.hid (HNB.out.step HX.out);have HUB:=strs_step HUB HX.out;have HBK:=strs_step HBK HX.out;clear y0 y1 y2 m0 m1 m2;(have y0:=HLB.out.box.cell 0;have y1:=HLB.out.box.cell 1;have y2:=HLB.out.box.cell 2;have m0:=HNB.out.box.cell 0;have m1:=HNB.out.box.cell 1;have m2:=HNB.out.box.cell 2)));clear y0 y1 y2 m0 m1 m2 HUB HBK;by_cases g2:e2=1
       ·have k2:(e2==(1:Int))=true:=by simpa using g2
        go_wp2;go_ret;exact⟨by first | rfl | simp,HLB.out.low⟩
       ·have k2:(e2==(1:Int))=false:=by simpa using g2
        by_cases g4:e4=1
        ·have k4:(e4==(1:Int))=true:=by simpa using g4
         go_wp2;go_ret;exact⟨by first | rfl | simp,HLB.out.low⟩
        ·have k4:(e4==(1:Int))=false:=by simpa using g4
         have hp:properL d (ps.map pvM) ts.length=true:=by
          cases e:properL d (ps.map pvM) ts.length with
          | true=>rfl
          | false=>
           exfalso
           have h:=C2.out;unfold whyA at h;rw[if_neg (by rw[e];simp)]at h;cases h
           exact g2 rfl
         have q1:=why_same_law (d:=d) (ps:=ps) (ts:=ts) (a:=a) (b:=b) (by rw[C2.out];exact g2) hp;rw[C1.out,C2.out]at q1;have q2:=best_same_law (d:=d) (ps:=ps) (ts:=ts) (ids:=ids) hp;rw[C3.out,C4.out]at q2;cases q1
         cases q2
         have HSS:=Lib.hid (fun(_:Unit)=>same_any s3 s3 _ _ wF wF.heap.size HS3.out HS4.out);clear hp C1 C2 C3 C4 g2 g4;go_wp2_with (go_at_call 20;refine(HSS.out ()).mono ?_;rintro e wG ⟨rfl,nn,rfl⟩;rw[sameB_refl]);go_ret;exact⟨by first | rfl | simp,HLB.out.low.trans (World.drewN_below _ _ _)⟩
end Go.Proofs.YtmafmhlfjficmaaGreatDoor
