/- The walk of Build's recursion: a text that the memo knows, whatever the limit. Bounds on the table. -/
import Derived.Test.YtihniipjfdenbaaGreatDoorDgGL
set_option maxRecDepth 100000
set_option maxHeartbeats 4000000
namespace Go.Proofs.YtihniipjfdenbaaGreatDoor
section
variable {d : List Fa}
def rootL (d:List Fa)(f:Fo):((List Dn×List (ByteArray×Nat))×Bool)×Nat:=growLF d (d.length+1) false [] [] 0 (givF nilB 0 f)
def orderL (d:List Fa)(f:Fo):List Nat:=visitD (rootL d f).1.1.1 (d.length+1) [] (rootL d f).2
def buildX (d:List Fa)(f:Fo):List Dn×Int:=
 if validD d=false\/checkF f d (fun _=>false)≠0 then([],1)else if 24<(tstF f []).length then([],2)
 else if(rootL d f).1.2=true\/20000<(orderL d f).length then([],2)else(fromD (rootL d f).1.1.1 (orderL d f),0)
theorem invL_start (f0:Fo):InvF d f0 [] []:=⟨Made.nil,fun _ _ _ _ h=>by cases h⟩
theorem rootL_made (hd:DomOk d){f:Fo}(hw:WfF d f):MadeL d.length (flo d) (fhi d) keyD (ResF d f) 20000 (d.length+1) [] 0 (rootL d f):=
 growLF_made hd (d.length+1) false [] [] 0 (givF nilB 0 f) (invL_start f) (res_first hw) (by omega)
theorem rootL_small (hd:DomOk d){f:Fo}(hw:WfF d f):(rootL d f).1.1.1.length<=20072:=by
 have h:=rootL_made hd hw;have h1:=innN_len h.inv.made;have h2:=h.few;have h3:=hd.len;have h4:innN ([]:List Dn)=0:=rfl;omega
theorem rootL_means (hd:DomOk d){f:Fo}(hw:WfF d f)(h:(rootL d f).1.2=false):
  InvG d.length (flo d) (fhi d) (fun s c=>valC d c s) keyD (ResF d f) (rootL d f).1.1.1 (rootL d f).1.1.2/\ NodeG d.length (flo d) (fhi d) (fun s c=>valC d c s) (rootL d f).1.1.1 0 (givF nilB 0 f) (rootL d f).2:=by
 obtain⟨_,q⟩:=growL_free (nf:=d.length) (con:=conF) (S:=stD d) (giv:=givD d) (key:=keyD) (L:=20000) (d.length+1) false [] [] 0 (givF nilB 0 f) h;have q:=q (max 20000 (cellsD d f+2)) (Nat.le_max_left _ _)
 have g:=grow_ok (L:=max 20000 (cellsD d f+2)) (con:=conF) (S:=stD d) (giv:=givD d) (key:=keyD) (R:=ResF d f) (F:=fun s c=>valC d c s)
  (fun m dn hI=>Nat.le_trans (build_cap hd hI) (Nat.le_max_right _ _)) (fun i s bl hr hc c _=>con_val hr.wf hc c) (fun s hr=>res_end hr) (fun i s hr=>hr.le)
  (fun i s i' s' hr hr' he=>by
   obtain⟨e1,e2⟩:=keyD_inj (wf_sp d _ s (Nat.le_refl _) hr.wf) (wf_sp d _ s' (Nat.le_refl _) hr'.wf) he
   exact⟨e1,fun c _=>by rw[e2]⟩)
  (fun i s v hr _ hi hv=>res_giv hd hr hi hv) (fun i s hr _ hi=>res_start hd hr hi) (d.length+1) [] [] 0 (givF nilB 0 f) (inv_start f) (res_first hw) (by omega)
 rw[q]at g;exact⟨g.1,g.2.1⟩
theorem buildX_ok {f:Fo}(h:(buildX d f).2=0):ValidG d (buildX d f).1/\ WfF d f/\ ∀c,fitsC d.length (flo d) (fhi d) c->readG d (buildX d f).1 0 c=valC d c f:=by
 unfold buildX at h⊢
 split at h
 {cases h}
 ·next hv=>
  rw[if_neg hv]
  split at h
  {cases h}
  ·next h24=>
   rw[if_neg h24]
   split at h
   {cases h}
   ·next hfu=>
    rw[if_neg hfu];clear h;obtain⟨hv,hck⟩:=not_or.1 hv;have hv:validD d=true:=by cases e:validD d with | true=>rfl | false=>exact absurd e hv
    have hck:checkF f d (fun _=>false)=0:=by simpa using hck
    have hw:=wf_check hck;obtain⟨hf1,hf2⟩:=not_or.1 hfu;have hd:=dom_ok hv;obtain⟨hI,hN⟩:=rootL_means hd hw (by simpa using hf1);have g:=hI.made.good (dom_le hd);have hx:=hN.lt;obtain⟨ho,u,hu⟩:=visit_order g.table hx (f:=d.length+1) (by omega);have hlen:(fromD (rootL d f).1.1.1 (orderL d f)).length=(orderL d f).length:=by unfold fromD;rw[List.length_map]
    have g2:=from_good g ho;have hV:ValidG d (fromD (rootL d f).1.1.1 (orderL d f)):=⟨hv,by rw[hlen];unfold orderL;rw[hu];simp,by rw[hlen];omega,g2.table,g2.nodup,from_again g hx (by omega)⟩;refine⟨hV,hw,fun c fc=>?_⟩;rw[show readG d (fromD (rootL d f).1.1.1 (orderL d f)) 0 c=_ from read_one hV.good g2 _ 0 hV.pos (Nat.le_refl _) c fc]
    show readT _ ((visitD (rootL d f).1.1.1 (d.length+1) [] (rootL d f).2).getD 0 0) c=_
    rw[hu]
    show readT _ (rootL d f).2 c=_
    rw[hN.means c fc];obtain⟨vs,_,_,hv⟩:=(res_first hw).from_;rw[hv c fc];congr 1
end
open Go.RowKit
theorem growL_con {w0:World}{K DB:Nat}{S:List Nat}{d:List Fa}{fv:Value}{fu:Bool}(hE:EnvG w0 K DB d fv fu)(i:Nat)(s:Fo)(bl:Bool)(hc:conF s=some bl)(m:List Dn)(dn:List (ByteArray×Nat))(hl:m.length<=900000)(v:Value)(W:World)
  (hS:StB w0 K S m dn W) (hf:s.InP W (Fix W K S) v):
  Calls Tryz.prog 147 #[v,.int .i64 i,.pointer (some ⟨K+1,0,none⟩),.pointer (some ⟨K+4,0,none⟩),.pointer (some ⟨DB,0,none⟩),.pointer (some ⟨K+3,0,none⟩),.pointer (some ⟨K+5,0,none⟩)] W fun e W'=>e=.returned (.int .i64 (addD m ⟨0,[],[],bl⟩).2)/\ StB w0 K S (addD m ⟨0,[],[],bl⟩).1 dn W'/\ MkS K [] W W':=by
 obtain⟨ao,cap,rfl,_⟩:=hf.shape;have hsz:=hS.size;have hsK:=hE.size;have hS1:=hS.below ((Below.refl _ _).alloc (Nat.le_refl _) (.cells #[.int .i64 s.op,.string s.name,.int .i64 s.cmp,.int .i64 s.n,.slice ao s.kids.length cap] 47))
 have e12:(s.op==1)=bl/\ (s.op==2)= !bl:=by{unfold conF at hc;by_cases h1:s.op=1;{rw[if_pos h1]at hc;cases hc;rw[h1];exact⟨rfl,rfl⟩};{rw[if_neg h1]at hc;by_cases h2:s.op=2;{rw[if_pos h2]at hc;cases hc;rw[h2];exact⟨rfl,rfl⟩};{rw[if_neg h2]at hc;cases hc}}}
 obtain⟨e1,e2⟩:=e12;have hmv:=(hS1.blk hE.mv ⟨by decide,by decide⟩).cell 0;have HN:=Lib.hid (node_any K K S m ⟨0,[],[],bl⟩ (.slice none 0 0) (.slice none 0 0) _ hS1.is (IntsF.nil _ _ _) (IntsF.nil _ _ _) hl ⟨⟨by show(-9223372036854775808:Int)<=0;decide,by show(0:Int)<=9223372036854775807;decide⟩,by simp,by simp,by simp,by simp⟩ (hE.tab.on (hS1.stp.below (by omega))));have HS1:=Lib.hid hS1;have hK1:K+1<W.heap.size:=by omega
 clear hS hf hS1 hE hc;generalize(addD m ⟨0,[],[],bl⟩).2=r2 at*
 generalize(addD m ⟨0,[],[],bl⟩).1=r1 at*
 cases bl
 all_goals
  go_enter Tryz.func147,Tryz.ntmps147;go_wp2_with (go_at_call 106;refine HN.out.mono ?_;rintro e w2 ⟨rfl,h2,h3⟩;have H2:=Lib.hid (HS1.out.step h3 h2);have HM:=Lib.hid ((MkS.of_below (H:=K) (S:=[]) ((Below.refl W.heap.size W).alloc (Nat.le_refl _) (.cells #[.int .i64 s.op,.string s.name,.int .i64 s.cmp,.int .i64 s.n,.slice ao s.kids.length cap] 47)) (Nat.le_refl _)).trans h3.s);clear h2 h3);go_ret;exact⟨rfl,H2.out,HM.out⟩
theorem growL_full {w0:World}{K DB:Nat}{S:List Nat}{d:List Fa}{fv:Value}{fu:Bool}(hE:EnvG w0 K DB d fv fu)(hKS:K+4∈S)(i:Nat)(s:Fo)(hc:conF s=none)(m:List Dn)(dn:List (ByteArray×Nat))(hl:m.length<=900000)(hfu:(fu || decide (20000<m.length))=true)(v:Value)(W:World)
  (hS:StB w0 K S m dn W) (hf:s.InP W (Fix W K S) v):
  Calls Tryz.prog 147 #[v,.int .i64 i,.pointer (some ⟨K+1,0,none⟩),.pointer (some ⟨K+4,0,none⟩),.pointer (some ⟨DB,0,none⟩),.pointer (some ⟨K+3,0,none⟩),.pointer (some ⟨K+5,0,none⟩)] W fun e W'=>e=.returned (.int .i64 (addD m ⟨0,[],[],false⟩).2)/\ StB (flagW w0 K) K S (addD m ⟨0,[],[],false⟩).1 dn W'/\ MkS K [K+4] W W':=by
 obtain⟨ao,cap,hv,_⟩:=hf.shape;subst hv;have hsz:=hS.size;have hsK:=hE.size;have hS1:=hS.below ((Below.refl _ _).alloc (Nat.le_refl _) (.cells #[.int .i64 s.op,.string s.name,.int .i64 s.cmp,.int .i64 s.n,.slice ao s.kids.length cap] 47));obtain⟨n1,n2⟩:=con_op.1 hc;have e1:(s.op==1)=false:=by simpa using n1
 have e2:(s.op==2)=false:=by simpa using n2
 have hmv:=(hS1.blk hE.mv ⟨by decide,by decide⟩).cell 0;have hfbB:=hS1.blk hE.fb ⟨by decide,by decide⟩;have hfb:=hfbB.cell 0;have hfz:=hfbB.frozen 0;obtain⟨_,⟨mv,mo,xs,g1,g2,g3,_⟩,_⟩:=hS1.is;obtain⟨ma,mc,hmvs⟩:=own_len g2;have hxl:xs.length=m.length:=by rw[<-g3,List.length_map]
 subst hmvs;have hmk:=g1.cell 0;rw[hxl]at hmk;have hfb2:=((blk_one (hS.blk hE.fb ⟨by decide,by decide⟩) (.bool true)).alloc (.cells #[.int .i64 s.op,.string s.name,.int .i64 s.cmp,.int .i64 s.n,.slice ao s.kids.length cap] 47)).cell 0;obtain⟨hS20,hM2⟩:=hS.full hE.fb hKS;have hS2:=hS20.below ((Below.refl _ _).alloc (Nat.le_refl _) (.cells #[.int .i64 s.op,.string s.name,.int .i64 s.cmp,.int .i64 s.n,.slice ao s.kids.length cap] 47));have hE2:=hE.full;have hmv2:=(hS2.blk hE2.mv ⟨by decide,by decide⟩).cell 0;have HN:=Lib.hid (node_any K K S m ⟨0,[],[],false⟩ (.slice none 0 0) (.slice none 0 0) _ hS2.is (IntsF.nil _ _ _) (IntsF.nil _ _ _) hl ⟨⟨by show(-9223372036854775808:Int)<=0;decide,by show(0:Int)<=9223372036854775807;decide⟩,by simp,by simp,by simp,by simp⟩ (hE2.tab.on (hS2.stp.below (by show K<=(w0.setCell _ _).heap.size;rw[World.size_setCell];omega))));have HS2:=Lib.hid hS2;have HM0:=Lib.hid (hM2.alloc (.cells #[.int .i64 s.op,.string s.name,.int .i64 s.cmp,.int .i64 s.n,.slice ao s.kids.length cap] 47));have hK1:K+4<W.heap.size:=by omega
 have hfu2:fu=false->decide ((20000:Int)<(m.length:Int))=true:=by{intro e;subst e;(have:20000<m.length:=by simpa using hfu);simp;omega}
 clear hS hf hS1 hE hc hS2 hM2 hS20 hE2 hfu g1 g2 g3 hxl hfbB;generalize(addD m ⟨0,[],[],false⟩).2=r2 at*
 generalize(addD m ⟨0,[],[],false⟩).1=r1 at*
 unfold flagW at*
 cases fu
 {have hdd:=hfu2 rfl;clear hfu2;go_enter Tryz.func147,Tryz.ntmps147;go_upto_region 4 with(fail);(try simp only[hdd]);go_wp2_with (go_at_call 106;refine HN.out.mono ?_;rintro e w2 ⟨rfl,h2,h3⟩;have H2:=Lib.hid (HS2.out.step h3 h2);have HM:=Lib.hid (HM0.out.trans (h3.s.more (S':=[K+4]) (by simp)));clear h2 h3);go_ret;exact⟨rfl,H2.out,HM.out⟩}
 {clear hfu2;go_enter Tryz.func147,Tryz.ntmps147;go_upto_region 4 with(fail);go_wp2_with (go_at_call 106;refine HN.out.mono ?_;rintro e w2 ⟨rfl,h2,h3⟩;have H2:=Lib.hid (HS2.out.step h3 h2);have HM:=Lib.hid (HM0.out.trans (h3.s.more (S':=[K+4]) (by simp)));clear h2 h3);go_ret;exact⟨rfl,H2.out,HM.out⟩}
open Go.Sort (grow)
theorem growL_hit {w0:World}{K DB:Nat}{S:List Nat}{d:List Fa}{fv:Value}(hE:EnvG w0 K DB d fv false)(i:Nat)(hi:i<d.length)(hdl:d.length<=60)(s:Fo)(hc:conF s=none)(hw:WfF d s)(hln:(spellT s).length<=1000000)(m:List Dn)(dn:List (ByteArray×Nat))(hl:m.length<=20000)(k:Nat)(hk:dn.lookup (keyD i s)=some k)(v:Value)(W:World)
  (hS:StB w0 K S m dn W) (hf:s.InP W (Fix W K S) v):
  Calls Tryz.prog 147 #[v,.int .i64 i,.pointer (some ⟨K+1,0,none⟩),.pointer (some ⟨K+4,0,none⟩),.pointer (some ⟨DB,0,none⟩),.pointer (some ⟨K+3,0,none⟩),.pointer (some ⟨K+5,0,none⟩)] W fun e W'=>e=.returned (.int .i64 k)/\ StB w0 K S m dn W'/\ MkS K [] W W':=by
 obtain⟨ao,cap,hv,_⟩:=hf.shape;subst hv;have hsz:=hS.size;have hsK:=hE.size;have hS1:=hS.below ((Below.refl _ _).alloc (Nat.le_refl _) (.cells #[.int .i64 s.op,.string s.name,.int .i64 s.cmp,.int .i64 s.n,.slice ao s.kids.length cap] 47));obtain⟨n1,n2⟩:=con_op.1 hc;have e1:(s.op==1)=false:=by simpa using n1
 have e2:(s.op==2)=false:=by simpa using n2
 have hmv:=(hS1.blk hE.mv ⟨by decide,by decide⟩).cell 0;have hfbB:=hS1.blk hE.fb ⟨by decide,by decide⟩;have hfb:=hfbB.cell 0;have hfz:=hfbB.frozen 0;obtain⟨ad,cd,hfv,_⟩:=SlIn.shape hE.dom;have hdb:=(hS1.blk hE.db ⟨by decide,by decide⟩).cell 0;rw[hfv]at hdb;obtain⟨_,⟨mv,mo,xs,g1,g2,g3,_⟩,_⟩:=hS1.is;obtain⟨ma,mc,hmvs⟩:=own_len g2;have hxl:xs.length=m.length:=by rw[<-g3,List.length_map]
 subst hmvs;have hmk:=g1.cell 0;rw[hxl]at hmk;have hine:((i:Int)==(d.length:Int))=false:=by simp;omega
 have hKb:=hE.lt;have hd:decide ((20000:Int)<(m.length:Int))=false:=by simp;omega
 have hsame:=set_same hfbB;have HSAME:=Lib.hid hsame;have hin:s.In ((W.alloc (.cells #[.int .i64 s.op,.string s.name,.int .i64 s.cmp,.int .i64 s.n,.slice ao s.kids.length cap] 47)).alloc (.cells #[.pointer none,.slice none 0 0] 180)) (W.alloc (.cells #[.int .i64 s.op,.string s.name,.int .i64 s.cmp,.int .i64 s.n,.slice ao s.kids.length cap] 47)).heap.size (.agg #[.int .i64 s.op,.string s.name,.int .i64 s.cmp,.int .i64 s.n,.slice ao s.kids.length cap]):=Fo.In.mono (by simp) s _ (Fo.In.below (((Below.refl W.heap.size W).alloc (Nat.le_refl _) _).alloc (by simp) _) s _ (Fo.InP.back (B:=W.heap.size) (fun b h=>h.1) _ _ hf));have hsp:=(spell_any d (W.alloc (.cells #[.int .i64 s.op,.string s.name,.int .i64 s.cmp,.int .i64 s.n,.slice ao s.kids.length cap] 47)).heap.size (W.alloc (.cells #[.int .i64 s.op,.string s.name,.int .i64 s.cmp,.int .i64 s.n,.slice ao s.kids.length cap] 47)).heap.size s.size s (Nat.le_refl _) hw (.agg #[.int .i64 s.op,.string s.name,.int .i64 s.cmp,.int .i64 s.n,.slice ao s.kids.length cap]) [] ((W.alloc (.cells #[.int .i64 s.op,.string s.name,.int .i64 s.cmp,.int .i64 s.n,.slice ao s.kids.length cap] 47)).alloc (.cells #[.pointer none,.slice none 0 0] 180)) hin (bld_new _) (fun w' hb=>hE.tab w' ((hS1.stp.below (by omega)).trans (((Below.refl _ _).alloc (by simp;omega) _).trans (hb.mono (by simp;omega))))) (by simp) (by simp;omega));rw[World.size_alloc]at hsp;have HSP:=Lib.hid hsp;have HS1:=Lib.hid hS1;have HE:=Lib.hid hE;have x0:=((Blk.new W 47 #[.int .i64 s.op,.string s.name,.int .i64 s.cmp,.int .i64 s.n,.slice ao s.kids.length cap]).alloc (.cells #[.pointer none,.slice none 0 0] 180)).cell 0;have x1:=((Blk.new W 47 #[.int .i64 s.op,.string s.name,.int .i64 s.cmp,.int .i64 s.n,.slice ao s.kids.length cap]).alloc (.cells #[.pointer none,.slice none 0 0] 180)).cell 1;have x2:=((Blk.new W 47 #[.int .i64 s.op,.string s.name,.int .i64 s.cmp,.int .i64 s.n,.slice ao s.kids.length cap]).alloc (.cells #[.pointer none,.slice none 0 0] 180)).cell 2;have x3:=((Blk.new W 47 #[.int .i64 s.op,.string s.name,.int .i64 s.cmp,.int .i64 s.n,.slice ao s.kids.length cap]).alloc (.cells #[.pointer none,.slice none 0 0] 180)).cell 3;have x4:=((Blk.new W 47 #[.int .i64 s.op,.string s.name,.int .i64 s.cmp,.int .i64 s.n,.slice ao s.kids.length cap]).alloc (.cells #[.pointer none,.slice none 0 0] 180)).cell 4;have hKW:K+6<=W.heap.size:=by omega
 clear hsp hS hf hS1 hE hc n1 n2 hfbB g1 g2 g3 hsame hin hfv hxl hw;go_enter Tryz.func147,Tryz.ntmps147;go_upto_region 4 with(fail)
 try simp only[hd]
 rw[HSAME.out];go_upto_region 7 with(fail);clear hmv hfb hfz hdb hmk;go_upto_region 8 with(go_at_call 148;refine HSP.out.mono ?_;rintro e w3 ⟨rfl,h1,h2,h3⟩;have H3:=Lib.hid h1;have HB3:=Lib.hid h2;clear h1 h2 h3);have hB1:Below (W.alloc (.cells #[.int .i64 s.op,.string s.name,.int .i64 s.cmp,.int .i64 s.n,.slice ao s.kids.length cap] 47)).heap.size (W.alloc (.cells #[.int .i64 s.op,.string s.name,.int .i64 s.cmp,.int .i64 s.n,.slice ao s.kids.length cap] 47)) w3:=((Below.refl _ _).alloc (Nat.le_refl _) _).trans (by rw[World.size_alloc];exact HB3.out);have HS3:=Lib.hid (HS1.out.below hB1);have hs3:W.heap.size+2<=w3.heap.size:=by have:=HB3.out.size;simpa using this
 have HIT:Hid (Calls Tryz.prog 149 #[.int .i64 (i:Int)] w3 fun e w'=>∃sI:ByteArray,e=.returned (.string sI)/\ sI.size<=21/\ Hid (sI=⟨(Lib.itoa (i:Int)).toArray⟩)/\ Hid (Below w3.heap.size w3 w')):=by{refine(Tryz.strconv_Itoa (i:Int) (by omega) (by omega) w3 ((HE.out.tab.on (HS3.out.stp.below (by omega))).here)).mono ?_;rintro e w' ⟨rfl,nq,os,rfl⟩;refine⟨_,rfl,?_,rfl,grow_below w3 nq os⟩;have:=Lib.itoa_length_le (i:Int) (by omega) (by omega);simpa[ByteArray.size]using this}
 have HSTR:Hid (∀w4,Below w3.heap.size w3 w4->Calls Tryz.prog 150 #[.pointer (some ⟨W.heap.size+1,0,none⟩)] w4 fun e w'=>∃sT:ByteArray,e=.returned (.string sT)/\ sT.size<=1000000/\ Hid (sT=⟨(spellT s).toArray⟩)/\ Hid (Below (W.heap.size+1) w4 w')):=fun w4 hb=>by{have hbl:=bld_below H3.out hb;rw[List.nil_append]at hbl;have q:=Tryz.Builder_String_any_k (W.heap.size+1) (W.heap.size+1) (spellT s) w4 hbl (by have:=hb.size;omega);refine q.mono ?_;rintro e w' ⟨rfl,_,h2,_⟩;exact⟨_,rfl,by simpa[ByteArray.size]using hln,rfl,h2⟩}
 clear HSP HSAME hln hdl;go_upto_region 9 with(first | (go_at_call 149;refine HIT.out.mono ?_;rintro e w4 ⟨sI,rfl,hsI,HsI,HB4⟩) | (go_at_call 150;refine(HSTR.out _ HB4.out).mono ?_;rintro e w5 ⟨sT,rfl,hsT,HsT,HB5⟩));have hb5:Below (W.alloc (.cells #[.int .i64 s.op,.string s.name,.int .i64 s.cmp,.int .i64 s.n,.slice ao s.kids.length cap] 47)).heap.size (W.alloc (.cells #[.int .i64 s.op,.string s.name,.int .i64 s.cmp,.int .i64 s.n,.slice ao s.kids.length cap] 47)) w5:=(hB1.trans (HB4.out.mono (by rw[World.size_alloc];omega))).trans (by rw[World.size_alloc];exact HB5.out);have hS5:=HS1.out.below hb5;have hdv:=(hS5.blk HE.out.dv ⟨by decide,by decide⟩).cell 0;obtain⟨mp,hm,hmp⟩:=hS5.memo;have hlk:=run_look_ok MapSI.key Tryz.underlying128 zero_int3 hm (sI++sT);have hkey:sI++sT=keyD i s:=by rw[HsI.out,HsT.out,ByteArray.mk_append_mk];rfl
 have hv:mp.lookup (sI++sT)=some (k:Int):=by rw[hmp,hkey,hk];rfl
 rw[hv]at hlk;have HS5:=Lib.hid hS5;have HM5:=Lib.hid ((MkS.of_below (H:=K) (S:=[]) ((Below.refl W.heap.size W).alloc (Nat.le_refl _) (.cells #[.int .i64 s.op,.string s.name,.int .i64 s.cmp,.int .i64 s.n,.slice ao s.kids.length cap] 47)) (Nat.le_refl _)).trans (MkS.of_below hb5 (Nat.le_refl _)));clear hS5 hm hmp hv hkey hb5 hB1 HSTR HIT x0 x1 x2 x3 x4;go_wp2;go_ret;exact⟨rfl,HS5.out,HM5.out⟩
end Go.Proofs.YtihniipjfdenbaaGreatDoor
