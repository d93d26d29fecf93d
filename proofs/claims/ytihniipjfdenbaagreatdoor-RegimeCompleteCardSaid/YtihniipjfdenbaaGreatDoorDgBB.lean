/- The walk of diagram.Build, whatever the limit. A bound on the formula's size. -/
import Derived.Test.YtihniipjfdenbaaGreatDoorDgBA
import Derived.Test.YtihniipjfdenbaaGreatDoorDgGL
import Derived.Test.YtihniipjfdenbaaGreatDoorDgBN
import Derived.Test.YtihniipjfdenbaaGreatDoorDgVC
import Derived.Test.YtihniipjfdenbaaGreatDoorDgST
import Derived.Handy
set_option maxRecDepth 100000
set_option maxHeartbeats 4000000
namespace Go.Proofs.YtihniipjfdenbaaGreatDoor
section
open Go.RowKit
open Go.Sort (grow)
def GrowWL (w0:World)(K DB:Nat)(d:List Fa)(f0:Fo)(f:Nat):Prop:=
 ∀(fu:Bool) (S:List Nat) (m:List Dn) (dn:List (ByteArray×Nat)) (i:Nat) (s:Fo) (v:Value) (W:World),K+4∈S->(∀b∈S,b<W.heap.size)->InvF d f0 m dn->innN m<=20070->ResF d f0 i s->d.length-i<f->s.size<=9000->StB (bwL w0 K fu) K S m dn W->s.InP W (Fix W K S) v->
  Calls Tryz.prog 147 #[v,.int .i64 i,.pointer (some ⟨K+1,0,none⟩),.pointer (some ⟨K+4,0,none⟩),.pointer (some ⟨DB,0,none⟩),.pointer (some ⟨K+3,0,none⟩),.pointer (some ⟨K+5,0,none⟩)] W fun e W'=>e=.returned (.int .i64 (growLF d f fu m dn i s).2)/\ StB (bwL w0 K (growLF d f fu m dn i s).1.2) K S (growLF d f fu m dn i s).1.1.1 (growLF d f fu m dn i s).1.1.2 W'/\ MkS K [K+4] W W'
structure LoL (w0 : World) (K : Nat) (S : List Nat) (w6 : World) (r : ((List Dn × List (ByteArray × Nat)) × Bool) × List Int) (kv : Value) (wr : World) : Prop where
 st:StB (bwL w0 K r.1.2) K (ownL kv++S) r.1.1.1 r.1.1.2 wr
 mks:MkS K [K+4] w6 wr
 own:wr.ownsRow w6.heap.size 3 1 kv r.2.length (r.2.map iW)
variable {w0 w6 wr w8 w10 : World} {K : Nat} {S : List Nat} {r : ((List Dn × List (ByteArray × Nat)) × Bool) × List Int} {r' : (List Dn × List (ByteArray × Nat)) × Bool} {kv v' : Value}
theorem own_mksL {W W':World}{base e size n:Nat}{v:Value}{xs:List Value}(h:W.ownsRow base e size v n xs)(hs:MkS K [K+4] W W')(ht:(e==106)=false/\ (e==132)=false)(hK:K+6<=base):W'.ownsRow base e size v n xs:=
 own_mks h hs ht fun g hg=>by have:=(own_at h g hg).1;simp;omega
theorem LoL.own9 (h:LoL w0 K S w6 r kv wr)(hK:K+6<=w6.heap.size)(h8:StB (bwL w0 K r'.2) K (ownL kv++S) r'.1.1 r'.1.2 w8/\ MkS K [K+4] wr w8)(o:Obj):(w8.alloc o).ownsRow w6.heap.size 3 1 kv r.2.length (r.2.map iW):=
 own_mksL h.own (h8.2.alloc o) ⟨by decide,by decide⟩ hK
theorem LoL.app (h:LoL w0 K S w6 r kv wr)(hK:K+6<=w0.heap.size)(hw:w0.heap.size<=w6.heap.size)(h8:StB (bwL w0 K r'.2) K (ownL kv++S) r'.1.1 r'.1.2 w8/\ MkS K [K+4] wr w8){o:Obj}(hg:(w8.alloc o).grownBy w10 kv.ownBlock){g:Nat}(hv:v'.ownBlock=some g)(hat:kv.ownBlock=some g\/g=(w8.alloc o).heap.size)
  {k:Int} (h10:w10.ownsRow w6.heap.size 3 1 v' (r.2++[k]).length ((r.2++[k]).map iW)):LoL w0 K S w6 (r',r.2++[k]) v' w10:=by
 have hb:=bw_size w0 K r'.2;obtain⟨q1,q2⟩:=(h8.1.below ((Below.refl _ _).alloc (Nat.le_refl _) o)).app (by omega) (h.own9 (by omega) h8 o) (by omega) hg hv hat;refine⟨q1,?_,h10⟩;refine(((h.mks.trans (h8.2.alloc o)).more (S':=ownL kv++[K+4]) (by simp)).trans (q2.more fun b hb=>List.mem_append_left _ hb)).less fun b hb hlt=>?_
 rcases List.mem_append.1 hb with hb | hb
 ·have e:kv.ownBlock=some b:=by unfold ownL at hb;simpa using hb
  have:=(own_at h.own b e).1;omega
 ·exact hb
theorem growL_new {w0:World}{K DB:Nat}{S:List Nat}{d:List Fa}{fv:Value}(hE:EnvG w0 K DB d fv false)(hd:DomOk d){f0:Fo}(f:Nat)(hf7:f<=70)(IH:GrowWL w0 K DB d f0 f)
  (m:List Dn) (dn:List (ByteArray×Nat)) (i:Nat) (s:Fo) (v:Value) (W:World) (hKS:K+4∈S) (hSb:∀b∈S,b<W.heap.size) (hI:InvF d f0 m dn) (hin0:innN m<=20070) (hml:m.length<=20000) (hR:ResF d f0 i s) (hfu:d.length-i<f+1) (hz:s.size<=9000) (hS:StB w0 K S m dn W) (hf:s.InP W (Fix W K S) v)
  (hc:conF s=none) (hi:i<d.length) (hk:dn.lookup (keyD i s)=none):
  Calls Tryz.prog 147 #[v,.int .i64 i,.pointer (some ⟨K+1,0,none⟩),.pointer (some ⟨K+4,0,none⟩),.pointer (some ⟨DB,0,none⟩),.pointer (some ⟨K+3,0,none⟩),.pointer (some ⟨K+5,0,none⟩)] W fun e W'=>e=.returned (.int .i64 (growLF d (f+1) false m dn i s).2)/\ StB (bwL w0 K (growLF d (f+1) false m dn i s).1.2) K S (growLF d (f+1) false m dn i s).1.1.1 (growLF d (f+1) false m dn i s).1.1.2 W'/\ MkS K [K+4] W W':=by
 have hKl:∀b∈[K+4],b∈S:=fun b hb=>by rw[List.mem_singleton.1 hb];exact hKS
 obtain⟨ao,cap,hv,_⟩:=hf.shape;subst hv;have hw:=hR.wf;have hdl:=hd.len;have hln:(spellT s).length<=1000000:=by have:=spell_len d s.size s (Nat.le_refl _) hw;omega
 have hgr:=growL_new_eq (d:=d) f hc hml hi hk;have hfo:=foldL_ok hd (f:=f) hI hin0 hf7 hR hi (by omega);have hlr:∀x∈stD d i s,0<=x/\ x<=1000000:=fun x hx=>st_range hd hi hx
 have hll:=st_len (d:=d) i s;have hlp:0<(stD d i s).length:=by have:=st_pos hd s hi;unfold stN at this;exact this
 obtain⟨L,hL⟩:∃L,stD d i s=L:=⟨_,rfl⟩;rw[hL]at hgr hfo hlr hll hlp;have HRG:=Lib.hid (fun(x:Int) (hx:x∈L)=>res_giv hd hR hi (v:=x) (by rw[hL];exact hx));have HGZ:=Lib.hid (fun(x:Int)=>(giv_size d (fnm d i) x s.size s (Nat.le_refl _) hR.wf));have HGR:=Lib.hid hgr;have HFO:=Lib.hid hfo;have HLR:=Lib.hid hlr;have hll2:L.length<=20000:=by omega
 clear hgr hfo hlr hll;have hsz:=hS.size;have hsK:=hE.size;have hS1:=hS.below ((Below.refl _ _).alloc (Nat.le_refl _) (.cells #[.int .i64 s.op,.string s.name,.int .i64 s.cmp,.int .i64 s.n,.slice ao s.kids.length cap] 47));obtain⟨n1,n2⟩:=con_op.1 hc;have e1:(s.op==1)=false:=by simpa using n1
 have e2:(s.op==2)=false:=by simpa using n2
 have hmv:=(hS1.blk hE.mv ⟨by decide,by decide⟩).cell 0;have hfbB:=hS1.blk hE.fb ⟨by decide,by decide⟩;have hfb:=hfbB.cell 0;have hfz:=hfbB.frozen 0;obtain⟨ad,cd,hfv,_⟩:=SlIn.shape hE.dom;have hdom:=hE.dom;rw[hfv]at hdom;obtain⟨db,df,rfl,hdbK,f0',f1',f2',f3',_⟩:=hdom.at i hi;have hdb:=(hS1.blk hE.db ⟨by decide,by decide⟩).cell 0;have hdb0:=hE.db.cell 0;rw[hfv]at hdb hdb0;have efn:fnm d i=d[i].name:=by unfold fnm;rw[getD_dg _ _ _ hi]
 have eL:startsD d[i].name d[i].lo d[i].hi s=L:=by rw[<-hL];unfold stD flo fhi;rw[efn,getD_dg _ _ _ hi]
 have eG:∀x,givF d[i].name x s=givD d i s x:=fun x=>by unfold givD;rw[efn]
 generalize d[i]=fa at*
 obtain⟨_,⟨mv,mo,xs,g1,g2,g3,_⟩,_⟩:=hS1.is;obtain⟨ma,mc,hmvs⟩:=own_len g2;have hxl:xs.length=m.length:=by rw[<-g3,List.length_map]
 subst hmvs;have hmk:=g1.cell 0;rw[hxl]at hmk;have hine:((i:Int)==(d.length:Int))=false:=by simp;omega
 have hKb:=hE.lt;have hdd:decide ((20000:Int)<(m.length:Int))=false:=by simp;omega
 have hsame:=set_same (hS.blk hE.fb ⟨by decide,by decide⟩);have HSAME:=Lib.hid hsame;have hin:s.In ((W.alloc (.cells #[.int .i64 s.op,.string s.name,.int .i64 s.cmp,.int .i64 s.n,.slice ao s.kids.length cap] 47)).alloc (.cells #[.pointer none,.slice none 0 0] 180)) (W.alloc (.cells #[.int .i64 s.op,.string s.name,.int .i64 s.cmp,.int .i64 s.n,.slice ao s.kids.length cap] 47)).heap.size (.agg #[.int .i64 s.op,.string s.name,.int .i64 s.cmp,.int .i64 s.n,.slice ao s.kids.length cap]):=Fo.In.mono (by simp) s _ (Fo.In.below (((Below.refl W.heap.size W).alloc (Nat.le_refl _) _).alloc (by simp) _) s _ (Fo.InP.back (B:=W.heap.size) (fun b h=>h.1) _ _ hf));have hsp:=(spell_any d (W.alloc (.cells #[.int .i64 s.op,.string s.name,.int .i64 s.cmp,.int .i64 s.n,.slice ao s.kids.length cap] 47)).heap.size (W.alloc (.cells #[.int .i64 s.op,.string s.name,.int .i64 s.cmp,.int .i64 s.n,.slice ao s.kids.length cap] 47)).heap.size s.size s (Nat.le_refl _) hw (.agg #[.int .i64 s.op,.string s.name,.int .i64 s.cmp,.int .i64 s.n,.slice ao s.kids.length cap]) [] ((W.alloc (.cells #[.int .i64 s.op,.string s.name,.int .i64 s.cmp,.int .i64 s.n,.slice ao s.kids.length cap] 47)).alloc (.cells #[.pointer none,.slice none 0 0] 180)) hin (bld_new _) (fun w' hb=>hE.tab w' ((hS1.stp.below (by omega)).trans (((Below.refl _ _).alloc (by simp;omega) _).trans (hb.mono (by simp;omega))))) (by simp) (by simp;omega));rw[World.size_alloc]at hsp;have HSP:=Lib.hid hsp;have HS1:=Lib.hid hS1;have HE:=Lib.hid hE;have x0:=((Blk.new W 47 #[.int .i64 s.op,.string s.name,.int .i64 s.cmp,.int .i64 s.n,.slice ao s.kids.length cap]).alloc (.cells #[.pointer none,.slice none 0 0] 180)).cell 0;have x1:=((Blk.new W 47 #[.int .i64 s.op,.string s.name,.int .i64 s.cmp,.int .i64 s.n,.slice ao s.kids.length cap]).alloc (.cells #[.pointer none,.slice none 0 0] 180)).cell 1;have x2:=((Blk.new W 47 #[.int .i64 s.op,.string s.name,.int .i64 s.cmp,.int .i64 s.n,.slice ao s.kids.length cap]).alloc (.cells #[.pointer none,.slice none 0 0] 180)).cell 2;have x3:=((Blk.new W 47 #[.int .i64 s.op,.string s.name,.int .i64 s.cmp,.int .i64 s.n,.slice ao s.kids.length cap]).alloc (.cells #[.pointer none,.slice none 0 0] 180)).cell 3;have x4:=((Blk.new W 47 #[.int .i64 s.op,.string s.name,.int .i64 s.cmp,.int .i64 s.n,.slice ao s.kids.length cap]).alloc (.cells #[.pointer none,.slice none 0 0] 180)).cell 4;have hKW:K+6<=W.heap.size:=by omega
 have HF:=Lib.hid hf;have HWF:=Lib.hid hw;obtain⟨GG,hGG⟩:∃GG,growLF d (f+1) false m dn i s=GG:=⟨_,rfl⟩;rw[hGG];have HGG:=Lib.hid (hGG.symm.trans HGR.out);clear hGG HGR
 have HST:Hid (∀w',Hid (MkS K [K+4] (W.alloc (.cells #[.int .i64 s.op,.string s.name,.int .i64 s.cmp,.int .i64 s.n,.slice ao s.kids.length cap] 47)) w')->Calls Tryz.prog 151 #[.agg #[.int .i64 s.op,.string s.name,.int .i64 s.cmp,.int .i64 s.n,.slice ao s.kids.length cap],.agg #[.string fa.name,.int .i64 fa.kind,.int .i64 fa.lo,.int .i64 fa.hi]] w' fun e w''=>∃(g lc:Nat),e=.returned (.slice (some ⟨g,0,none⟩) L.length lc)/\
   Hid (w''.ownsRow w'.heap.size 3 1 (.slice (some ⟨g,0,none⟩) L.length lc) L.length (L.map iW))/\ Hid (Below w'.heap.size w' w'')/\ Hid (MkS K [K+4] (W.alloc (.cells #[.int .i64 s.op,.string s.name,.int .i64 s.cmp,.int .i64 s.n,.slice ao s.kids.length cap] 47)) w'')):=by
  intro w' hm;have h1:=foFix hf ((MkS.of_below (S:=S) ((Below.refl W.heap.size W).alloc (Nat.le_refl _) (.cells #[.int .i64 s.op,.string s.name,.int .i64 s.cmp,.int .i64 s.n,.slice ao s.kids.length cap] 47)) (Nat.le_refl _)).trans (hm.out.more hKl));have q:=starts_any d fa s hw (by omega) _ w' (Fo.InP.back (fun b h=>h.1) _ _ h1);rw[eL]at q;refine q.mono ?_;rintro e w'' ⟨u,rfl,ho,hb⟩;obtain⟨g,lc,rfl,_,_⟩:=ho.form hlp;exact⟨g,lc,rfl,ho,hb,hm.out.trans (MkS.of_below hb (Nat.le_refl _))⟩
 have HCL:Hid (∀w',MkS K [K+4] (W.alloc (.cells #[.int .i64 s.op,.string s.name,.int .i64 s.cmp,.int .i64 s.n,.slice ao s.kids.length cap] 47)) w'->(w'.cell? ⟨W.heap.size,0,none⟩=some (.int .i64 s.op)/\ w'.cell? ⟨W.heap.size,1,none⟩=some (.string s.name)/\ w'.cell? ⟨W.heap.size,2,none⟩=some (.int .i64 s.cmp)/\ w'.cell? ⟨W.heap.size,3,none⟩=some (.int .i64 s.n)/\ w'.cell? ⟨W.heap.size,4,none⟩=some (.slice ao s.kids.length cap)/\ w'.cell? ⟨DB,0,none⟩=some (.slice (some ⟨db,df,none⟩) d.length cd)/\ w'.cell? ⟨db,df+i*4,none⟩=some (.string fa.name)/\ w'.cell? ⟨db,df+i*4+1,none⟩=some (.int .i64 fa.kind)/\ w'.cell? ⟨db,df+i*4+2,none⟩=some (.int .i64 fa.lo)/\ w'.cell? ⟨db,df+i*4+3,none⟩=some (.int .i64 fa.hi)/\ w'.cell? ⟨K+5,0,none⟩=some (.func (.func 147) #[] #[.pointer (some ⟨K+1,0,none⟩),.pointer (some ⟨K+4,0,none⟩),.pointer (some ⟨DB,0,none⟩),.pointer (some ⟨K+3,0,none⟩),.pointer (some ⟨K+5,0,none⟩)]))):=by
  intro w' hm;have hb0:=((hS1.stp.more (S':=[K+4]) (by simp)).trans hm).below (by omega:K<=w0.heap.size);have q:∀ {b:Nat} {t:TypeId} {cs:Array Value},Blk (W.alloc (.cells #[.int .i64 s.op,.string s.name,.int .i64 s.cmp,.int .i64 s.n,.slice ao s.kids.length cap] 47)) b t cs->b≠K+4->(t==106)=false/\ (t==132)=false->Blk w' b t cs:=fun h hne ht=>hm.keep _ _ h (.inr ⟨by simp[solid,ht.1,ht.2],by simpa using hne⟩)
  have y:=q (Blk.new W 47 #[.int .i64 s.op,.string s.name,.int .i64 s.cmp,.int .i64 s.n,.slice ao s.kids.length cap]) (by omega) ⟨by decide,by decide⟩;have z:=q (hS1.blk hE.gv ⟨by decide,by decide⟩) (by omega) ⟨by decide,by decide⟩;exact⟨y.cell 0,y.cell 1,y.cell 2,y.cell 3,y.cell 4,(hb0.cell (p:=⟨DB,0,none⟩) hKb).trans hdb0,(hb0.cell (p:=⟨db,_,none⟩) hdbK).trans f0',(hb0.cell (p:=⟨db,_,none⟩) hdbK).trans f1',(hb0.cell (p:=⟨db,_,none⟩) hdbK).trans f2',(hb0.cell (p:=⟨db,_,none⟩) hdbK).trans f3',z.cell 0⟩
 have HKP:Hid (∀w',Hid (MkS K [K+4] (W.alloc (.cells #[.int .i64 s.op,.string s.name,.int .i64 s.cmp,.int .i64 s.n,.slice ao s.kids.length cap] 47)) w')->(w'.cell? ⟨W.heap.size,0,none⟩=some (.int .i64 s.op)/\ w'.cell? ⟨W.heap.size,1,none⟩=some (.string s.name)/\ w'.cell? ⟨W.heap.size,2,none⟩=some (.int .i64 s.cmp)/\ w'.cell? ⟨W.heap.size,3,none⟩=some (.int .i64 s.n)/\ w'.cell? ⟨W.heap.size,4,none⟩=some (.slice ao s.kids.length cap)/\ w'.cell? ⟨DB,0,none⟩=some (.slice (some ⟨db,df,none⟩) d.length cd)/\ w'.cell? ⟨db,df+i*4,none⟩=some (.string fa.name)/\ w'.cell? ⟨db,df+i*4+1,none⟩=some (.int .i64 fa.kind)/\ w'.cell? ⟨db,df+i*4+2,none⟩=some (.int .i64 fa.lo)/\ w'.cell? ⟨db,df+i*4+3,none⟩=some (.int .i64 fa.hi)/\ w'.cell? ⟨K+5,0,none⟩=some (.func (.func 147) #[] #[.pointer (some ⟨K+1,0,none⟩),.pointer (some ⟨K+4,0,none⟩),.pointer (some ⟨DB,0,none⟩),.pointer (some ⟨K+3,0,none⟩),.pointer (some ⟨K+5,0,none⟩)]))/\ Hid (MkS K [K+4] (W.alloc (.cells #[.int .i64 s.op,.string s.name,.int .i64 s.cmp,.int .i64 s.n,.slice ao s.kids.length cap] 47)) w')):=fun w' h=>⟨HCL.out w' h.out,h⟩
 have HHI:=Lib.hid hI;have HHR:=Lib.hid hR;have HHD:=Lib.hid hd;have HIH:=Lib.hid IH;clear hsp hS hf hS1 hE hc n1 n2 hfbB g1 g2 g3 hsame hin hfv hxl hdom f0' f1' f2' f3' hdb0 hI hR IH;go_enter Tryz.func147,Tryz.ntmps147;go_upto_region 4 with(fail)
 try simp only[hdd]
 rw[HSAME.out];go_upto_region 7 with(fail);clear hmv hfb hfz hdb hmk;go_upto_region 8 with(go_at_call 148;refine HSP.out.mono ?_;rintro e w3 ⟨rfl,h1,h2,h3⟩;have H3:=Lib.hid h1;have HB3:=Lib.hid h2;clear h1 h2 h3);have hB1:Below (W.alloc (.cells #[.int .i64 s.op,.string s.name,.int .i64 s.cmp,.int .i64 s.n,.slice ao s.kids.length cap] 47)).heap.size (W.alloc (.cells #[.int .i64 s.op,.string s.name,.int .i64 s.cmp,.int .i64 s.n,.slice ao s.kids.length cap] 47)) w3:=((Below.refl _ _).alloc (Nat.le_refl _) _).trans (by rw[World.size_alloc];exact HB3.out);have HS3:=Lib.hid (HS1.out.below hB1);have hs3:W.heap.size+2<=w3.heap.size:=by have:=HB3.out.size;simpa using this
 have HIT:Hid (Calls Tryz.prog 149 #[.int .i64 (i:Int)] w3 fun e w'=>∃sI:ByteArray,e=.returned (.string sI)/\ sI.size<=21/\ Hid (sI=⟨(Lib.itoa (i:Int)).toArray⟩)/\ Hid (Below w3.heap.size w3 w')):=by
  refine(Tryz.strconv_Itoa (i:Int) (by omega) (by omega) w3 ((HE.out.tab.on (HS3.out.stp.below (by omega))).here)).mono ?_;rintro e w' ⟨rfl,nq,os,rfl⟩;refine⟨_,rfl,?_,rfl,grow_below w3 nq os⟩;have:=Lib.itoa_length_le (i:Int) (by omega) (by omega)
  simpa[ByteArray.size]using this
 have HSTR:Hid (∀w4,Below w3.heap.size w3 w4->Calls Tryz.prog 150 #[.pointer (some ⟨W.heap.size+1,0,none⟩)] w4 fun e w'=>∃sT:ByteArray,e=.returned (.string sT)/\ sT.size<=1000000/\ Hid (sT=⟨(spellT s).toArray⟩)/\ Hid (Below (W.heap.size+1) w4 w')):=fun w4 hb=>by
  have hbl:=bld_below H3.out hb;rw[List.nil_append]at hbl;have q:=Tryz.Builder_String_any_k (W.heap.size+1) (W.heap.size+1) (spellT s) w4 hbl (by have:=hb.size;omega);refine q.mono ?_;rintro e w' ⟨rfl,_,h2,_⟩;exact⟨_,rfl,by simpa[ByteArray.size]using hln,rfl,h2⟩
 clear HSP HSAME hln;go_upto_region 9 with(first | (go_at_call 149;refine HIT.out.mono ?_;rintro e w4 ⟨sI,rfl,hsI,HsI,HB4⟩) | (go_at_call 150;refine(HSTR.out _ HB4.out).mono ?_;rintro e w5 ⟨sT,rfl,hsT,HsT,HB5⟩));have hb5:Below (W.alloc (.cells #[.int .i64 s.op,.string s.name,.int .i64 s.cmp,.int .i64 s.n,.slice ao s.kids.length cap] 47)).heap.size (W.alloc (.cells #[.int .i64 s.op,.string s.name,.int .i64 s.cmp,.int .i64 s.n,.slice ao s.kids.length cap] 47)) w5:=(hB1.trans (HB4.out.mono (by rw[World.size_alloc];omega))).trans (by rw[World.size_alloc];exact HB5.out);have HM5:Hid (MkS K [K+4] (W.alloc (.cells #[.int .i64 s.op,.string s.name,.int .i64 s.cmp,.int .i64 s.n,.slice ao s.kids.length cap] 47)) w5):=MkS.of_below hb5 (Nat.le_refl _);have hS5:=HS1.out.below hb5;have hdv:=(hS5.blk HE.out.dv ⟨by decide,by decide⟩).cell 0;obtain⟨mp,hm,hmp⟩:=hS5.memo;have hlk:=run_look_ok MapSI.key Tryz.underlying128 zero_int3 hm (sI++sT);have HKEY:Hid (sI++sT=keyD i s):=by show _=_;rw[HsI.out,HsT.out,ByteArray.mk_append_mk];rfl
 have hv:mp.lookup (sI++sT)=none:=by rw[hmp,HKEY.out,hk];rfl
 rw[hv]at hlk;have HS5:=Lib.hid hS5;have hs5:W.heap.size+1<=w5.heap.size:=by have:=hb5.size;simpa using this
 have hKT:(sI++sT).size<=2000000:=by rw[ByteArray.size_append];omega
 clear hS5 hm hmp hv hb5 hB1 HSTR HIT x0 x1 x2 x3 x4 HsI HsT H3 HB3 HS3;go_upto_region 12 with(fail);have HM5d:Hid (MkS K [K+4] (W.alloc (.cells #[.int .i64 s.op,.string s.name,.int .i64 s.cmp,.int .i64 s.n,.slice ao s.kids.length cap] 47)) w5.drew):=HM5.out.trans (MkS.of_below ((Below.refl w5.heap.size w5).drew) (Nat.le_refl _))
 go_region_held3 (fun w'=>(w'.cell? ⟨W.heap.size,0,none⟩=some (.int .i64 s.op)/\ w'.cell? ⟨W.heap.size,1,none⟩=some (.string s.name)/\ w'.cell? ⟨W.heap.size,2,none⟩=some (.int .i64 s.cmp)/\ w'.cell? ⟨W.heap.size,3,none⟩=some (.int .i64 s.n)/\ w'.cell? ⟨W.heap.size,4,none⟩=some (.slice ao s.kids.length cap)/\ w'.cell? ⟨DB,0,none⟩=some (.slice (some ⟨db,df,none⟩) d.length cd)/\ w'.cell? ⟨db,df+i*4,none⟩=some (.string fa.name)/\ w'.cell? ⟨db,df+i*4+1,none⟩=some (.int .i64 fa.kind)/\ w'.cell? ⟨db,df+i*4+2,none⟩=some (.int .i64 fa.lo)/\ w'.cell? ⟨db,df+i*4+3,none⟩=some (.int .i64 fa.hi)/\ w'.cell? ⟨K+5,0,none⟩=some (.func (.func 147) #[] #[.pointer (some ⟨K+1,0,none⟩),.pointer (some ⟨K+4,0,none⟩),.pointer (some ⟨DB,0,none⟩),.pointer (some ⟨K+3,0,none⟩),.pointer (some ⟨K+5,0,none⟩)]))/\ Hid (MkS K [K+4] (W.alloc (.cells #[.int .i64 s.op,.string s.name,.int .i64 s.cmp,.int .i64 s.n,.slice ao s.kids.length cap] 47)) w'))
  (exact HKP.out _ (by assumption))
  ((go_at_call 151;refine(HST.out _ (by assumption)).mono ?_;rintro e w6 ⟨g6,c6,rfl,HO6,HB6,HM6⟩))
 go_split_ands;go_upto_region 15 with(fail);have hs6:w5.heap.size<=w6.heap.size:=HB6.out.size;have HS6:Hid (StB w0 K S m dn w6):=HS5.out.below (((Below.refl w5.heap.size w5).drew).trans HB6.out);have HL0:Hid (LoL w0 K S w6 (((m,dn),false),[]) (.slice none 0 0) w6):=⟨HS6.out,MkS.refl _ _ _,rfl,.inl ⟨rfl,rfl⟩⟩;have hlp2:L.length<=9223372036854775807:=by omega
 go_loopw [15,77] (fun kv iv wr=>∃(j:Nat) (r:((List Dn×List (ByteArray×Nat))×Bool)×List Int),j<=L.length/\ iv=.int .i64 j/\ Hid (r=foldLF d f m dn i s (L.take j))/\ Hid (LoL w0 K S w6 r kv wr)) (fun _ iv _=>L.length-(intOf iv).toNat)
 case atStart=>exact⟨0,(((m,dn),false),[]),by omega,rfl,rfl,HL0⟩
 case round=>
  obtain⟨j,r,hj,rfl,hr,hLo⟩:=hrel;obtain⟨ak,ck,hkv⟩:=own_len hLo.out.own;subst hkv;have hFj:=HFO.out j hj;rw[<-hr.out]at hFj;have HRL:=Lib.hid hFj.len;have hrb:r.2.length<=2000000:=by have:=hFj.len;omega
  have hmr:MkS K [K+4] (W.alloc (.cells #[.int .i64 s.op,.string s.name,.int .i64 s.cmp,.int .i64 s.n,.slice ao s.kids.length cap] 47)) wr:=HM6.out.trans hLo.out.mks;have hsr:=hLo.out.mks.size;clear HL0 HS6;by_cases hlt:j<L.length
  ·have hcl:wr.cell? ⟨g6,j,none⟩=some (.int .i64 L[j]):=by
    have q:=(own_mksL HO6.out hLo.out.mks ⟨by decide,by decide⟩ (by have:=((Below.refl w5.heap.size w5).drew).size;omega)).cellAt j (by omega);rw[List.getElem?_map,List.getElem?_eq_getElem hlt]at q;exact q
   have hx:=HLR.out L[j] (List.getElem_mem _);have hrg:=HRG.out L[j] (List.getElem_mem _);have hsnoc:=foldLF_snoc (d:=d) f m dn i s L j hlt;rw[<-hr.out]at hsnoc;generalize L[j]=x at*
   have hgz:=HGZ.out x;have hsz9:(givD d i s x).size<=9000:=Nat.le_trans hgz hz
   have hSb2:∀b∈ownL (.slice ak r.2.length ck)++S,b<wr.heap.size:=fun b hb=>by
    rcases List.mem_append.1 hb with hb | hb
    ·have e:(Value.slice ak r.2.length ck).ownBlock=some b:=by unfold ownL at hb;simpa using hb
     obtain⟨_,cs,h4⟩:=own_at hLo.out.own b e;exact heap_lt h4
    ·have:=hSb b hb;omega
   have hSo:∀b∈ownL (.slice ak r.2.length ck)++S,b∈S\/W.heap.size<=b:=fun b hb=>by
    rcases List.mem_append.1 hb with hb | hb
    ·have e:(Value.slice ak r.2.length ck).ownBlock=some b:=by unfold ownL at hb;simpa using hb
     have:=(own_at hLo.out.own b e).1
     right;omega
    ·exact .inl hb
   have hmd:MkS K [K+4] wr wr.drew:=MkS.of_below ((Below.refl wr.heap.size wr).drew) (Nat.le_refl _);have HMR:Hid (MkS K [K+4] (W.alloc (.cells #[.int .i64 s.op,.string s.name,.int .i64 s.cmp,.int .i64 s.n,.slice ao s.kids.length cap] 47)) wr.drew):=hmr.trans hmd
   have HGIV:Hid (Calls Tryz.prog 152 #[.agg #[.int .i64 s.op,.string s.name,.int .i64 s.cmp,.int .i64 s.n,.slice ao s.kids.length cap],.string fa.name,.int .i64 x] wr.drew fun e w''=>∃u,e=.returned u/\ Hid ((givD d i s x).InP w'' (Fix w'' K (ownL (.slice ak r.2.length ck)++S)) u)/\ Hid (StB (bwL w0 K r.1.2) K (ownL (.slice ak r.2.length ck)++S) r.1.1.1 r.1.1.2 w''/\ MkS K [K+4] wr w'')/\ Hid (MkS K [K+4] (W.alloc (.cells #[.int .i64 s.op,.string s.name,.int .i64 s.cmp,.int .i64 s.n,.slice ao s.kids.length cap] 47)) w'')):=by
    have h1:=foFix (foOpen HF.out hSo) ((MkS.of_below ((Below.refl W.heap.size W).alloc (Nat.le_refl _) (.cells #[.int .i64 s.op,.string s.name,.int .i64 s.cmp,.int .i64 s.n,.slice ao s.kids.length cap] 47)) (Nat.le_refl _)).trans (HMR.out.more fun b hb=>List.mem_append_right _ (hKl b hb)));have q:=given_any (Fix wr.drew K (ownL (.slice ak r.2.length ck)++S)) fa.name x d s.size s (Nat.le_refl _) (by omega) HWF.out _ wr.drew (fun b h=>h.1) h1;rw[eG]at q;refine q.mono ?_;rintro e w'' ⟨u,rfl,h2,h3⟩;have h4:MkS K [K+4] wr w'':=hmd.trans (MkS.of_below h3 (Nat.le_refl _));exact⟨u,rfl,foNew (W:=wr.drew) hSb2 h3 h2,⟨hLo.out.st.below (((Below.refl wr.heap.size wr).drew).trans h3),h4⟩,hmr.trans h4⟩
   obtain⟨G,hG⟩:∃G,growLF d f r.1.2 r.1.1.1 r.1.1.2 (i+1) (givD d i s x)=G:=⟨_,rfl⟩;obtain⟨rr,kn⟩:=G;have hsn:(rr,r.2++[(kn:Int)])=foldLF d f m dn i s (L.take (j+1)):=by rw[hsnoc];unfold stepLF;rw[hG]
   have HSN:=Lib.hid hsn
   have HGRW:Hid (∀w7 u,Hid ((givD d i s x).InP w7 (Fix w7 K (ownL (.slice ak r.2.length ck)++S)) u)->Hid (StB (bwL w0 K r.1.2) K (ownL (.slice ak r.2.length ck)++S) r.1.1.1 r.1.1.2 w7/\ MkS K [K+4] wr w7)->
     Calls Tryz.prog 147 #[u,.int .i64 (IntKind.i64.wrap ((i:Int)+1)),.pointer (some ⟨K+1,0,none⟩),.pointer (some ⟨K+4,0,none⟩),.pointer (some ⟨DB,0,none⟩),.pointer (some ⟨K+3,0,none⟩),.pointer (some ⟨K+5,0,none⟩)] w7 fun e w8=>e=.returned (.int .i64 kn)/\ Hid (StB (bwL w0 K rr.2) K (ownL (.slice ak r.2.length ck)++S) rr.1.1 rr.1.2 w8/\ MkS K [K+4] wr w8)/\ Hid (MkS K [K+4] (W.alloc (.cells #[.int .i64 s.op,.string s.name,.int .i64 s.cmp,.int .i64 s.n,.slice ao s.kids.length cap] 47)) w8)):=by
    intro w7 u h1 h2;have q:=HIH.out r.1.2 (ownL (.slice ak r.2.length ck)++S) r.1.1.1 r.1.1.2 (i+1) (givD d i s x) u w7 (List.mem_append_right _ hKS) (fun b hb=>by have:=hSb2 b hb;have:=h2.out.2.size;omega) hFj.inv hFj.few hrg (by omega) hsz9 h2.out.1 h1.out;rw[hG]at q;rw[Go.IntWalk.i64_in _ (by omega)];refine q.mono ?_;rintro e w8 ⟨rfl,h3,h4⟩;exact⟨rfl,⟨h3,h2.out.2.trans h4⟩,hmr.trans (h2.out.2.trans h4)⟩
   clear hsn hG hsnoc hrg hFj hgz hmr hmd hSb2 hSo hr;go_upto_region 17 with(fail);refine wp_region_held_drew (S:=(fun w':World=>Hid (MkS K [K+4] (W.alloc (.cells #[.int .i64 s.op,.string s.name,.int .i64 s.cmp,.int .i64 s.n,.slice ao s.kids.length cap] 47)) w'))) (by kernel_rfl) HMR (fun hHeld=>?_);refine tp 0 ?_;refine tk 1 ?v1 ?y1 ?_
   case y1=>(intro w9 hSw;obtain⟨y0,y1,y2,y3,y4,y5,y6,y7,y8,y9,y10⟩:=HCL.out w9 hSw.out;go_simp;try with_reducible rfl)
   refine tk 2 ?v2 ?y2 ?_
   case y2=>(intro w9 hSw;obtain⟨y0,y1,y2,y3,y4,y5,y6,y7,y8,y9,y10⟩:=HCL.out w9 hSw.out;go_simp;try with_reducible rfl)
   refine tp 3 ?_;refine tk 4 ?v4 ?y4 ?_
   case y4=>(intro w9 hSw;obtain⟨y0,y1,y2,y3,y4,y5,y6,y7,y8,y9,y10⟩:=HCL.out w9 hSw.out;go_simp;try with_reducible rfl)
   refine tp 5 ?_;refine tk 6 ?v6 ?y6 ?_
   case y6=>(intro w9 hSw;obtain⟨y0,y1,y2,y3,y4,y5,y6,y7,y8,y9,y10⟩:=HCL.out w9 hSw.out;go_simp;try with_reducible rfl)
   refine tp 7 ?_;refine tk 8 ?v8 ?y8 ?_
   case y8=>(intro w9 hSw;obtain⟨y0,y1,y2,y3,y4,y5,y6,y7,y8,y9,y10⟩:=HCL.out w9 hSw.out;go_simp;try with_reducible rfl)
   refine tp 9 ?_;refine tp 11 ?_;refine tp 12 ?_;refine tr 10 (fun K hK=>?_)
   (go_simp;go_at_call 152;refine HGIV.out.mono ?_;rintro e w7 ⟨u7,rfl,HI7,HS7,HM7⟩)
   refine hK.out _ _ ?_ (fun hHeld=>?_)
   ·exact HM7
   clear hK K
   try simp only[Act.put,sA,sB,sC]
   refine tr 13 (fun K hK=>?_)
   (go_simp;go_at_call 147;refine(HGRW.out w7 u7 HI7 HS7).mono ?_;rintro e w8 ⟨rfl,HS8,HM8⟩)
   refine hK.out _ _ ?_ (fun hHeld=>?_)
   ·exact HM8
   clear hK K
   try simp only[Act.put,sA,sB,sC]
   refine tr 14 (fun K hK=>?_)
   go_simp
   refine hK.out _ _ ?_ (fun hHeld=>?_)
   ·exact HM8.out.alloc _
   clear hK K
   try simp only[Act.put,sA,sB,sC]
   refine tr 15 (fun K hK=>?_)
   (refine own_step (xs:=r.2) (hLo.out.own9 (by omega) HS8.out _) (by rfl) _ _ (by rfl) (by rfl) ⟨w8.heap.size,0,none⟩ (by rfl) (by have:=HS8.out.2.size;rw[World.size_alloc];omega) (by omega) (kn:Int) ((Blk.new _ _ _).cell 0) ?_;intro g10 c10 w10 h10 hg10 ha10;have HL10:=Lib.hid (hLo.out.app hsK (by omega) HS8.out hg10 rfl ha10 h10))
   refine hK.out _ _ ?_ (fun hHeld=>?_)
   ·exact HM6.out.trans HL10.out.mks
   clear hK K
   try simp only[Act.put,sA,sB,sC]
   refine tp 16 ?_;refine wpAnyH_done (by kernel_rfl) ?_ _;go_wp2;go_roundw
   case rel=>exact⟨j+1,(rr,r.2++[(kn:Int)]),by omega,by go_num,HSN,HL10⟩
   case measure=>simp[intOf];omega
  ·have hje:j=L.length:=by omega
   have hrg:=hr.out;rw[hje,List.take_length]at hrg;have hgg:=HGG.out;rw[<-hrg]at hgg;obtain⟨q,hq⟩:∃q,innerD r.1.1.1 i L r.2=q:=⟨_,rfl⟩;rw[hq]at hgg;have HGQ:=Lib.hid hgg;have hlen2:L.length=r.2.length:=by rw[hFj.len];omega
   have hSb2:∀b∈ownL (.slice ak r.2.length ck)++S,b<wr.heap.size:=fun b hb=>by
    rcases List.mem_append.1 hb with hb | hb
    ·have e:(Value.slice ak r.2.length ck).ownBlock=some b:=by unfold ownL at hb;simpa using hb
     obtain⟨_,cs,h4⟩:=own_at hLo.out.own b e;exact heap_lt h4
    ·have:=hSb b hb;omega
   have hin:=inner_any K K (ownL (.slice ak r.2.length ck)++S) r.1.1.1 i L r.2 (.slice (some ⟨g6,0,none⟩) L.length c6) (.slice ak r.2.length ck) wr hLo.out.st.is (own_ints (own_mksL HO6.out hLo.out.mks ⟨by decide,by decide⟩ (by have:=((Below.refl w5.heap.size w5).drew).size;omega))) (own_ints hLo.out.own) hSb2
    (by have:=hFj.small;omega) (fun e=>absurd hlp (by rw[hlen2,e];simp)) hlen2 (by omega) (by omega) (fun x hx=>by have:=HLR.out x hx;exact⟨by omega,by omega⟩) (fun x hx=>by have:=hFj.kids x hx;exact⟨by omega,by omega⟩)
    (by
     rw[getD_dg _ _ _ (by omega)]
     exact(hFj.kids _ (List.getElem_mem _)).1) ((HE.out.bw r.1.2).tab.on (hLo.out.st.stp.below (by have:=bw_size w0 K r.1.2;omega)))
   rw[hq]at hin;have HQ:=Lib.hid hin;have hmv2:=(hLo.out.st.blk (HE.out.bw r.1.2).mv ⟨by decide,by decide⟩).cell 0;have HMR:Hid (MkS K [K+4] W wr):=(MkS.of_below ((Below.refl W.heap.size W).alloc (Nat.le_refl _) (.cells #[.int .i64 s.op,.string s.name,.int .i64 s.cmp,.int .i64 s.n,.slice ao s.kids.length cap] 47)) (Nat.le_refl _)).trans hmr;clear hin hgg hrg hq hFj hlen2 hSb2 hmr hje;go_upto_region 20 with(go_at_call 110;refine HQ.out.mono ?_;rintro e w7 ⟨rfl,h2,h3⟩;have HS7:=Lib.hid (hLo.out.st.step h3 h2);have HM7:=Lib.hid (h3.s.more (S':=[K+4]) (by simp));clear h2 h3);have hdv2:=(HS7.out.blk (HE.out.bw r.1.2).dv ⟨by decide,by decide⟩).cell 0;obtain⟨mp2,hm2,hmp2⟩:=HS7.out.memo;obtain⟨W2,hrun2,hm3,hu3⟩:=run_store MapSI.key Tryz.underlying128 hm2 (sI++sT) (q.2:Int);have hlearn:=HS7.out.learn hmp2 hu3 hm3 hm2;rw[HKEY.out]at hlearn;have HLE:=Lib.hid hlearn;clear hmp2 hm3 hu3 hlearn hmv2 hm2;go_wp2;go_ret;rw[HGQ.out];exact⟨rfl,HLE.out.1.less (fun k hk=>List.mem_append_right _ hk),(HMR.out.trans HM7.out).trans (HLE.out.2.more (by simp))⟩
end
section
open Go.RowKit
theorem growL_any {w0:World}{K DB:Nat}{d:List Fa}{fv:Value}(hE:EnvG w0 K DB d fv false)(hd:DomOk d){f0:Fo}:
  ∀f,f<=70->GrowWL w0 K DB d f0 f
 | 0,_=>fun fu S m dn i s v W _ _ _ _ _ hf=>absurd hf (Nat.not_lt_zero _)
 | f+1,hf7=>by
  intro fu S m dn i s v W hKS hSb hI hin0 hR hf hz hst hv;have hml:=innN_len hI.made;cases hc:conF s with
  | some bl=>
   rw[growL_con_eq f hc];obtain q:=growL_con (hE.bw fu) i s bl hc m dn (by omega) v W hst hv;exact q.mono fun e W' ⟨h1,h2,h3⟩=>⟨h1,h2,h3.more (by simp)⟩
  | none=>
   have hi:i<d.length:=by
    rcases Nat.lt_or_ge i d.length with h | h
    ·exact h
    ·have:i=d.length:=by have:=hR.le;omega
     subst this;exact absurd hc (res_end hR)
   by_cases hfu:(fu || decide (20000<m.length))=true
   ·rw[growL_full_eq f hc hfu]
    have q:=growL_full (hE.bw fu) hKS i s hc m dn (by omega) hfu v W hst hv
    have e:flagW (bwL w0 K fu) K=bwL w0 K true:=by
     cases fu
     ·rfl
     ·show flagW (flagW w0 K) K=flagW w0 K
      exact set_same (blk_one hE.fb _)
    rw[e]at q;exact q
   ·have h0:(fu || decide (20000<m.length))=false:=by simpa using hfu
    obtain⟨h1,h2⟩:=Bool.or_eq_false_iff.1 h0;subst h1;have hml2:m.length<=20000:=by simpa using h2
    cases hk:dn.lookup (keyD i s)with
    | some k=>
     rw[growL_hit_eq f hc hml2 hi hk];have q:=growL_hit hE i hi hd.len s hc hR.wf (by have:=spell_len d s.size s (Nat.le_refl _) hR.wf;omega) m dn hml2 k hk v W hst hv;exact q.mono fun e W' ⟨h1,h2,h3⟩=>⟨h1,h2,h3.more (by simp)⟩
    | none=>exact growL_new hE hd f (by omega) (growL_any hE hd f (by omega)) m dn i s v W hKS hSb hI hin0 hml2 hR hf hz hst hv hc hi hk
end
section
open Go.RowKit
attribute [local go_sem] run_store_func2
theorem from_full {nf:Nat}{lo hi:Nat->Int}(t:List Dn)(H mb:Nat)(S:List Nat)(x:Nat)(W:World)(hm:MkIs W H mb S t)(hT:TableD nf lo hi t)(hx:x<t.length)(hl:t.length<=900000)(ho:(visitD t (nf+1) [] x).length>20000):
  Calls Tryz.prog 111 #[.pointer (some ⟨mb,0,none⟩),.int .i64 (x:Int)] W fun e W'=>e=.returned (.tuple #[.agg #[.slice none 0 0],.int .i64 2])/\ Below W.heap.size W W':=by
 have hmm:=@run_makeMap Tryz.prog;obtain⟨w0,hw0,hE,hst0,hb0,hs0,hD⟩:=env_new W mb;have HI:=Lib.hid (visitD_any W w0 H W.heap.size mb S hE rfl hm hb0 hs0 hT (by omega) (nf+1) x [] w0 hx (by omega) List.nodup_nil (by simp) hst0);have hvo:=visit_ok hT (nf+1) [] x hx (by omega) List.nodup_nil (by simp);have HV:=Lib.hid hvo
 have hol:(visitD t (nf+1) [] x).length<=t.length:=by
  have:=List.Nodup.length_le_of_subset hvo.1.nodup (l₂:=List.range t.length) (fun y hy=>List.mem_range.2 (hvo.1.inside y hy))
  rwa[List.length_range]at this
 have hd1:=hD.cell 0;have hv1:=hE.v.cell 0;have HE:=Lib.hid hE;have HD:=Lib.hid hD;have HB0:=Lib.hid hb0;have HW0:=Lib.hid hw0;generalize visitD t (nf+1) [] x=o at*
 clear hm hT hE hst0 hb0 hD hvo;go_enter Tryz.func111,Tryz.ntmps111;go_upto_region 5 with(fail);rw[<-HW0.out];clear hw0 HW0;have hs0':W.heap.size+6<=w0.heap.size:=by omega
 clear hs0;go_upto_region 6 with(go_at_call 157;refine HI.out.mono ?_;rintro e w1 ⟨rfl,hS1⟩;have HS1:=Lib.hid hS1;clear hS1);have hs1:=HS1.out.size;obtain⟨vo,hvb,hown⟩:=HS1.out.ord;have hopos:0<o.length:=List.length_pos_of_mem HV.out.2;obtain⟨ob,ocap,rfl,hob,hob1⟩:=hown.form hopos;have c1:=hvb.cell 0;have HB1:=Lib.hid (HB0.out.trans ((HS1.out.below (by omega)).mono (by omega)));have hd1':=(HS1.out.blk HD.out (by omega) (by omega)).cell 0;have hzd1:=(HS1.out.blk HD.out (by omega) (by omega)).frozen 0;have HDB:=Lib.hid (HS1.out.blk HD.out (by omega) (by omega));clear hvb hown HS1 hd1 hv1 HE HD HB0;go_wp2;rw[set_same HDB.out];refine bodyPost_ret (by simp[results,Tryz.results111,go_sem,hd1'];try rfl) rfl ?_;exact⟨rfl,HB1.out⟩
end
section
open Go.RowKit
theorem env_flag {w0:World}{K DB:Nat}{d:List Fa}{fv:Value}(h:EnvB w0 K DB d fv):EnvG w0 K DB d fv false:=⟨h.mv,h.dv,h.fb,h.gv,h.db,h.lt,h.dom,h.tab,h.size⟩
theorem st_flag {w0 W:World}{K:Nat}{S:List Nat}{dn:List (ByteArray×Nat)}(h:StB w0 K [] [] dn W):StB w0 K S [] dn W:=by
 refine⟨h.stp,?_,h.own,h.memo⟩;obtain⟨hge,⟨v,mo,xs,h1,h2,h3,h4,h5⟩,h6⟩:=h.is;have:xs=[]:=by simpa using h3
 subst this;exact⟨hge,⟨v,mo,[],h1,h2,h3,fun x hx=>(by cases hx),h5⟩,h6⟩
theorem bw_below {W w0:World}{K:Nat}(h:Below K W w0)(fu:Bool):Below K W (bwL w0 K fu):=by
 cases fu
 ·exact h
 ·exact h.setCell (by show K<=K+4;omega) _
attribute [local go_sem] run_store_func2
theorem buildX_any (f:Fo)(d:List Fa)(v u:Value)(w:World)(B:Nat)(hs:f.size<=1000000)(hB:B<=w.heap.size)(hf:f.In w B v)(hd:DomIn w B d u)(hT:TabH w.heap.size w):
  Calls Tryz.prog 103 #[v,u] w fun e w'=>∃g,e=.returned (.tuple #[g,.int .i64 (buildX d f).2])/\ DgIn w' w'.heap.size (buildX d f).1 g/\ Below w.heap.size w w':=by
 obtain⟨ao,cap,rfl⟩:=hf.shape;have HD:=Lib.hid hd;obtain⟨du,rfl,hdu⟩:=hd;obtain⟨ad,cd,rfl,d1,d2,_⟩:=SlIn.shape hdu;have HF:=Lib.hid hf;have hB3:Below w.heap.size w (((w.alloc (.cells #[.int .i64 f.op,.string f.name,.int .i64 f.cmp,.int .i64 f.n,.slice ao f.kids.length cap] 47)).alloc (.cells #[.slice ad d.length cd] 25)).alloc (.cells #[.slice none 0 0] 75)):=(((Below.refl _ _).alloc (Nat.le_refl _) _).alloc (by simp) _).alloc (by simp;omega) _;have K0:Blk (((w.alloc (.cells #[.int .i64 f.op,.string f.name,.int .i64 f.cmp,.int .i64 f.n,.slice ao f.kids.length cap] 47)).alloc (.cells #[.slice ad d.length cd] 25)).alloc (.cells #[.slice none 0 0] 75)) w.heap.size 47 #[.int .i64 f.op,.string f.name,.int .i64 f.cmp,.int .i64 f.n,.slice ao f.kids.length cap]:=((Blk.new w 47 #[.int .i64 f.op,.string f.name,.int .i64 f.cmp,.int .i64 f.n,.slice ao f.kids.length cap]).alloc _).alloc _
 have K1:Blk (((w.alloc (.cells #[.int .i64 f.op,.string f.name,.int .i64 f.cmp,.int .i64 f.n,.slice ao f.kids.length cap] 47)).alloc (.cells #[.slice ad d.length cd] 25)).alloc (.cells #[.slice none 0 0] 75)) (w.heap.size+1) 25 #[.slice ad d.length cd]:=by
  have q:=(Blk.new (w.alloc (.cells #[.int .i64 f.op,.string f.name,.int .i64 f.cmp,.int .i64 f.n,.slice ao f.kids.length cap] 47)) 25 #[.slice ad d.length cd]).alloc (.cells #[.slice none 0 0] 75)
  simpa only[World.size_alloc]using q
 have K2:Blk (((w.alloc (.cells #[.int .i64 f.op,.string f.name,.int .i64 f.cmp,.int .i64 f.n,.slice ao f.kids.length cap] 47)).alloc (.cells #[.slice ad d.length cd] 25)).alloc (.cells #[.slice none 0 0] 75)) (w.heap.size+2) 75 #[.slice none 0 0]:=by
  have q:=Blk.new ((w.alloc (.cells #[.int .i64 f.op,.string f.name,.int .i64 f.cmp,.int .i64 f.n,.slice ao f.kids.length cap] 47)).alloc (.cells #[.slice ad d.length cd] 25)) 75 #[.slice none 0 0]
  simpa only[World.size_alloc]using q
 have HV:=Lib.hid (valid_any d _ (((w.alloc (.cells #[.int .i64 f.op,.string f.name,.int .i64 f.cmp,.int .i64 f.n,.slice ao f.kids.length cap] 47)).alloc (.cells #[.slice ad d.length cd] 25)).alloc (.cells #[.slice none 0 0] 75)) B (by simp;omega) (HD.out.below (hB3.mono hB)))
 have HCK:Hid (∀w',Below w.heap.size w w'->Calls Tryz.prog 59 #[.agg #[.int .i64 f.op,.string f.name,.int .i64 f.cmp,.int .i64 f.n,.slice ao f.kids.length cap],.agg #[.slice ad d.length cd],.slice none 0 0] w' fun e w''=>e=.returned (.int .i64 (checkF f d (fun _=>false)))/\ Below w'.heap.size w' w''):=fun w' hb=>
  checkP_any f d [] _ _ _ w' B hs (by have:=hb.size;omega) (Fo.In.below (hb.mono hB) _ _ HF.out) (HD.out.below (hb.mono hB)) ⟨none,0,rfl,Nat.le_refl _,Nat.zero_le _,fun h=>absurd rfl h⟩
 obtain⟨GG,hGG⟩:∃GG,buildX d f=GG:=⟨_,rfl⟩;rw[hGG];have HGG:=Lib.hid hGG;have HTB:=Lib.hid hT;have HB3:=Lib.hid hB3;have HK0:=Lib.hid K0;have HK1:=Lib.hid K1;have HK2:=Lib.hid K2;have HDU:=Lib.hid hdu;clear hf hdu hGG hT hB3 K0 K1 K2;cases hvd:validD d with
 | false=>
  rw[hvd]at HV;have hGe:GG=([],1):=by rw[<-HGG.out];unfold buildX;rw[if_pos (.inl hvd)]
  subst hGe;clear hvd HGG;go_enter Tryz.func103,Tryz.ntmps103;go_wp2_with (go_at_call 50;refine HV.out.mono ?_;rintro e w4 ⟨rfl,hb4⟩;have x0:=(HK0.out.below hb4).cell 0;have x1:=(HK0.out.below hb4).cell 1;have x2:=(HK0.out.below hb4).cell 2;have x3:=(HK0.out.below hb4).cell 3;have x4:=(HK0.out.below hb4).cell 4;have y0:=(HK1.out.below hb4).cell 0;have z2:=(HK2.out.below hb4).frozen 0;have c2:=(HK2.out.below hb4).cell 0;have HX0:=Lib.hid (HK0.out.below hb4);have HX1:=Lib.hid (HK1.out.below hb4);have HX2:=Lib.hid (HK2.out.below hb4);have HB4:=Lib.hid (HB3.out.trans (hb4.mono (by simp;omega)));have hs4:=hb4.size;simp only[World.size_alloc]at hs4;clear hb4);have hcs:=(HX2.out.set 0 (.slice none 0 0)).cell 0;refine bodyPost_ret (by simp[results,Tryz.results103,go_sem,hcs];try rfl) rfl ?_;exact⟨_,rfl,DgIn.nil _ _,HB4.out.setCell (by show w.heap.size<=w.heap.size+1+1;omega) _⟩
 | true=>
  rw[hvd]at HV;by_cases hck:checkF f d (fun _=>false)=0
  ·rw[hck]at HCK
   have hw:=wf_check hck;have hsz:=(check_nodes hck).1
   have HTS:Hid (∀w5,Below w.heap.size w w5->Calls Tryz.prog 146 #[.agg #[.int .i64 f.op,.string f.name,.int .i64 f.cmp,.int .i64 f.n,.slice ao f.kids.length cap],.map (some w5.heap.size)] (w5.alloc (.map #[] 0)) fun e w'=>e=.returned (.map (some w5.heap.size))/\ StT (w5.alloc (.map #[] 0)) w5.heap.size (tstF f []) w'):=fun w5 hb=>
    tst_any d B (w5.alloc (.map #[] 0)) w5.heap.size (by have:=hb.size;omega) (by have:=hb.size;simp;omega) f.size f (Nat.le_refl _) _ [] _ ⟨rfl,rfl,rfl,Nat.le_refl _,fun _ _ _=>rfl,MapIs.made (ek:=Value.string) (ev:=Value.bool) w5⟩
     (Fo.In.below ((hb.trans (((Below.refl _ _).alloc (Nat.le_refl _) _).mono hb.size)).mono hB) _ _ HF.out)
   have hmm:=@run_makeMap Tryz.prog;by_cases hlen:24<(tstF f []).length
   ·have hGe:GG=([],2):=by rw[<-HGG.out];unfold buildX;rw[if_neg (by rw[hvd];simp[hck]),if_pos hlen]
    subst hGe;clear hvd HGG hck hw;go_enter Tryz.func103,Tryz.ntmps103;go_upto_region 3 with(first | (go_at_call 50;refine HV.out.mono ?_;rintro e w4 ⟨rfl,hb4⟩;have x0:=(HK0.out.below hb4).cell 0;have x1:=(HK0.out.below hb4).cell 1;have x2:=(HK0.out.below hb4).cell 2;have x3:=(HK0.out.below hb4).cell 3;have x4:=(HK0.out.below hb4).cell 4;have y0:=(HK1.out.below hb4).cell 0;have z2:=(HK2.out.below hb4).frozen 0;have c2:=(HK2.out.below hb4).cell 0;have HX0:=Lib.hid (HK0.out.below hb4);have HX1:=Lib.hid (HK1.out.below hb4);have HX2:=Lib.hid (HK2.out.below hb4);have HB4:=Lib.hid (HB3.out.trans (hb4.mono (by simp;omega)));have hs4:=hb4.size;simp only[World.size_alloc]at hs4;clear hb4) | (go_at_call 59;refine(HCK.out _ HB4.out).mono ?_;rintro e w5 ⟨rfl,hb5⟩;clear x0 x1 x2 x3 x4 y0 z2 c2;have x0:=(HX0.out.below hb5).cell 0;have x1:=(HX0.out.below hb5).cell 1;have x2:=(HX0.out.below hb5).cell 2;have x3:=(HX0.out.below hb5).cell 3;have x4:=(HX0.out.below hb5).cell 4;have z2:=(HX2.out.below hb5).frozen 0;have c2:=(HX2.out.below hb5).cell 0;have HY0:=Lib.hid (HX0.out.below hb5);have HY1:=Lib.hid (HX1.out.below hb5);have HY2:=Lib.hid (HX2.out.below hb5);have HB5:=Lib.hid (HB4.out.trans (hb5.mono (by omega)));have hs5:=hb5.size;clear hb5));clear HCK HV;go_wp2_with ((go_at_call 146;refine(HTS.out w5 HB5.out).mono ?_;rintro e w6 ⟨rfl,hst⟩;obtain⟨es,ck,hme,hml⟩:=hst.map;have hes:es.size=(tstF f []).length:=(by have q:=congrArg List.length hml;simpa using q);have hb6:Below w5.heap.size w5 w6:=((Below.refl _ _).alloc (Nat.le_refl _) (.map #[] 0)).trans (hst.below (by simp) (Nat.le_refl _));have hln:=run_len_map (P:=Tryz.prog) (w:=w6) 93 3 w5.heap.size es ck (by kernel_rfl) hme;clear hst hml;clear x0 x1 x2 x3 x4 z2 c2;have x0:=(HY0.out.below hb6).cell 0;have x1:=(HY0.out.below hb6).cell 1;have x2:=(HY0.out.below hb6).cell 2;have x3:=(HY0.out.below hb6).cell 3;have x4:=(HY0.out.below hb6).cell 4;have z2:=(HY2.out.below hb6).frozen 0;have c2:=(HY2.out.below hb6).cell 0;have HZ0:=Lib.hid (HY0.out.below hb6);have HZ1:=Lib.hid (HY1.out.below hb6);have HZ2:=Lib.hid (HY2.out.below hb6);have HB6:=Lib.hid (HB5.out.trans (hb6.mono (by omega)));have hs6:=hb6.size;clear hb6);have hdd:decide ((24:Int)<(es.size:Int))=true:=(by rw[hes];simp;omega));have hcs:=(HZ2.out.set 0 (.slice none 0 0)).cell 0;refine bodyPost_ret (by simp[results,Tryz.results103,go_sem,hcs];try rfl) rfl ?_;exact⟨_,rfl,DgIn.nil _ _,HB6.out.setCell (by show w.heap.size<=w.heap.size+1+1;omega) _⟩
   ·have hGe:GG=if(rootL d f).1.2=true\/20000<(orderL d f).length then([],2)else(fromD (rootL d f).1.1.1 (orderL d f),0):=by rw[<-HGG.out];unfold buildX;rw[if_neg (by rw[hvd];simp[hck]),if_neg hlen]
    have HGE:=Lib.hid hGe;clear hGe;have HDK:=Lib.hid (dom_ok hvd);have HWF:=Lib.hid hw;clear hvd HGG hck hw;go_enter Tryz.func103,Tryz.ntmps103;go_upto_region 3 with(first | (go_at_call 50;refine HV.out.mono ?_;rintro e w4 ⟨rfl,hb4⟩;have x0:=(HK0.out.below hb4).cell 0;have x1:=(HK0.out.below hb4).cell 1;have x2:=(HK0.out.below hb4).cell 2;have x3:=(HK0.out.below hb4).cell 3;have x4:=(HK0.out.below hb4).cell 4;have y0:=(HK1.out.below hb4).cell 0;have z2:=(HK2.out.below hb4).frozen 0;have c2:=(HK2.out.below hb4).cell 0;have HX0:=Lib.hid (HK0.out.below hb4);have HX1:=Lib.hid (HK1.out.below hb4);have HX2:=Lib.hid (HK2.out.below hb4);have HB4:=Lib.hid (HB3.out.trans (hb4.mono (by simp;omega)));have hs4:=hb4.size;simp only[World.size_alloc]at hs4;clear hb4) | (go_at_call 59;refine(HCK.out _ HB4.out).mono ?_;rintro e w5 ⟨rfl,hb5⟩;clear x0 x1 x2 x3 x4 y0 z2 c2;have x0:=(HX0.out.below hb5).cell 0;have x1:=(HX0.out.below hb5).cell 1;have x2:=(HX0.out.below hb5).cell 2;have x3:=(HX0.out.below hb5).cell 3;have x4:=(HX0.out.below hb5).cell 4;have z2:=(HX2.out.below hb5).frozen 0;have c2:=(HX2.out.below hb5).cell 0;have HY0:=Lib.hid (HX0.out.below hb5);have HY1:=Lib.hid (HX1.out.below hb5);have HY2:=Lib.hid (HX2.out.below hb5);have HB5:=Lib.hid (HB4.out.trans (hb5.mono (by omega)));have hs5:=hb5.size;clear hb5));clear HCK HV;go_upto_region 5 with((go_at_call 146;refine(HTS.out w5 HB5.out).mono ?_;rintro e w6 ⟨rfl,hst⟩;obtain⟨es,ck,hme,hml⟩:=hst.map;have hes:es.size=(tstF f []).length:=(by have q:=congrArg List.length hml;simpa using q);have hb6:Below w5.heap.size w5 w6:=((Below.refl _ _).alloc (Nat.le_refl _) (.map #[] 0)).trans (hst.below (by simp) (Nat.le_refl _));have hln:=run_len_map (P:=Tryz.prog) (w:=w6) 93 3 w5.heap.size es ck (by kernel_rfl) hme;clear hst hml;clear x0 x1 x2 x3 x4 z2 c2;have x0:=(HY0.out.below hb6).cell 0;have x1:=(HY0.out.below hb6).cell 1;have x2:=(HY0.out.below hb6).cell 2;have x3:=(HY0.out.below hb6).cell 3;have x4:=(HY0.out.below hb6).cell 4;have z2:=(HY2.out.below hb6).frozen 0;have c2:=(HY2.out.below hb6).cell 0;have HZ0:=Lib.hid (HY0.out.below hb6);have HZ1:=Lib.hid (HY1.out.below hb6);have HZ2:=Lib.hid (HY2.out.below hb6);have HB6:=Lib.hid (HB5.out.trans (hb6.mono (by omega)));have hs6:=hb6.size;clear hb6);have hdd:decide ((24:Int)<(es.size:Int))=false:=(by rw[hes];simp;omega));clear hme hln hes hdd x0 x1 x2 x3 x4;obtain⟨w0,hw0,hEB,hst00,hb0,hs0⟩:=env_build w6 (w.heap.size+1) d _ HZ1.out ((SlIn.below FaR.kept (HB6.out.mono hB) HDU.out).mono FaR.mono (by omega)) (fun w' hb=>HTB.out w' (HB6.out.trans (hb.mono (by omega))));have hE:=env_flag hEB;have hst0:=st_flag (S:=[w6.heap.size+4]) hst00;clear hEB hst00;have HW0:=Lib.hid hw0;have HE:=Lib.hid hE;have HST0:=Lib.hid hst0;have HB0:=Lib.hid hb0;have hb60:=HB6.out.trans (hb0.mono (by omega:w.heap.size<=w6.heap.size))
    have HIP:Hid (f.InP w0.drew (Fix w0.drew w6.heap.size [w6.heap.size+4]) (.agg #[.int .i64 f.op,.string f.name,.int .i64 f.cmp,.int .i64 f.n,.slice ao f.kids.length cap])):=
     Fo.InP.step (P:=(· <B)) (fun _ _=>rfl) (fun b h=>⟨by show b<w0.heap.size;omega,.inl (by omega)⟩) _ _ (Fo.In.toP _ _ (Fo.In.below (hb60.drew.mono hB) _ _ HF.out))
    have HMD:Hid (MkS w6.heap.size [w6.heap.size+4] w0 w0.drew):=MkS.of_below ((Below.refl w0.heap.size w0).drew) (Nat.le_refl _)
    have HGV:Hid (Calls Tryz.prog 152 #[.agg #[.int .i64 f.op,.string f.name,.int .i64 f.cmp,.int .i64 f.n,.slice ao f.kids.length cap],.string (⟨#[]⟩:ByteArray),.int .i64 0] w0.drew fun e w''=>∃u,e=.returned u/\ Hid ((givF nilB 0 f).InP w'' (Fix w'' w6.heap.size [w6.heap.size+4]) u)/\ Hid (StB w0 w6.heap.size [w6.heap.size+4] [] [] w'')/\ Hid (MkS w6.heap.size [w6.heap.size+4] w0 w'')):=by
     have q:=given_any (Fix w0.drew w6.heap.size [w6.heap.size+4]) nilB 0 d f.size f (Nat.le_refl _) (by omega) HWF.out _ w0.drew (fun b h=>h.1) HIP.out;refine q.mono ?_;rintro e w'' ⟨u,rfl,h2,h3⟩;exact⟨u,rfl,foNew (W:=w0.drew) (fun b hb=>by rw[List.mem_singleton.1 hb];show _<w0.heap.size;omega) h3 h2,HST0.out.below (((Below.refl w0.heap.size w0).drew).trans h3),HMD.out.trans (MkS.of_below h3 (Nat.le_refl _))⟩
    obtain⟨RR,hRR⟩:∃RR,rootL d f=RR:=⟨_,rfl⟩;have HRR:=Lib.hid hRR
    have HGW:Hid (∀w7 u,Hid ((givF nilB 0 f).InP w7 (Fix w7 w6.heap.size [w6.heap.size+4]) u)->Hid (StB w0 w6.heap.size [w6.heap.size+4] [] [] w7)->Hid (MkS w6.heap.size [w6.heap.size+4] w0 w7)->Calls Tryz.prog 147 #[u,.int .i64 0,.pointer (some ⟨w6.heap.size+1,0,none⟩),.pointer (some ⟨w6.heap.size+4,0,none⟩),.pointer (some ⟨w.heap.size+1,0,none⟩),.pointer (some ⟨w6.heap.size+3,0,none⟩),.pointer (some ⟨w6.heap.size+5,0,none⟩)] w7 fun e w8=>e=.returned (.int .i64 RR.2)/\ Hid (StB (bwL w0 w6.heap.size RR.1.2) w6.heap.size [w6.heap.size+4] RR.1.1.1 RR.1.1.2 w8)/\ Hid (MkS w6.heap.size [w6.heap.size+4] w0 w8)):=by
     intro w7 u h1 h2 h3;have hgz:=giv_size d nilB 0 f.size f (Nat.le_refl _) HWF.out;have hdl:=HDK.out.len;have q:=growL_any HE.out HDK.out (d.length+1) (by omega) false [w6.heap.size+4] [] [] 0 (givF nilB 0 f) u w7 (by simp) (fun b hb=>by rw[List.mem_singleton.1 hb];have:=h2.out.size;omega) (invL_start f) (Nat.zero_le _) (res_first HWF.out) (by omega) (by omega) h2.out h1.out;rw[<-HRR.out];refine q.mono ?_;rintro e w8 ⟨rfl,h4,h5⟩;exact⟨rfl,h4,h3.out.trans h5⟩
    have HKP:Hid (∀w',Hid (MkS w6.heap.size [w6.heap.size+4] w0 w')->(w'.cell? ⟨w.heap.size,0,none⟩=some (.int .i64 f.op)/\ w'.cell? ⟨w.heap.size,1,none⟩=some (.string f.name)/\ w'.cell? ⟨w.heap.size,2,none⟩=some (.int .i64 f.cmp)/\ w'.cell? ⟨w.heap.size,3,none⟩=some (.int .i64 f.n)/\ w'.cell? ⟨w.heap.size,4,none⟩=some (.slice ao f.kids.length cap)/\ w'.cell? ⟨w6.heap.size+5,0,none⟩=some (.func (.func 147) #[] #[.pointer (some ⟨w6.heap.size+1,0,none⟩),.pointer (some ⟨w6.heap.size+4,0,none⟩),.pointer (some ⟨w.heap.size+1,0,none⟩),.pointer (some ⟨w6.heap.size+3,0,none⟩),.pointer (some ⟨w6.heap.size+5,0,none⟩)]))/\ Hid (MkS w6.heap.size [w6.heap.size+4] w0 w')):=by
     intro w' hm;have z:=HZ0.out.below (HB0.out.trans (hm.out.below (by omega)));have k5:Blk w' (w6.heap.size+5) 115 _:=hm.out.keep _ _ HE.out.gv (.inr ⟨rfl,by simp⟩);exact⟨⟨z.cell 0,z.cell 1,z.cell 2,z.cell 3,z.cell 4,k5.cell 0⟩,hm⟩
    have HMA:=Lib.hid (rootL_made HDK.out HWF.out);have hsm:=rootL_small HDK.out HWF.out;rw[hRR]at HMA hsm;clear hw0 hE hst0 hb0 hb60 hRR;go_upto_region 10 with(fail);rw[<-HW0.out]
    go_region_held3 (fun w'=>(w'.cell? ⟨w.heap.size,0,none⟩=some (.int .i64 f.op)/\ w'.cell? ⟨w.heap.size,1,none⟩=some (.string f.name)/\ w'.cell? ⟨w.heap.size,2,none⟩=some (.int .i64 f.cmp)/\ w'.cell? ⟨w.heap.size,3,none⟩=some (.int .i64 f.n)/\ w'.cell? ⟨w.heap.size,4,none⟩=some (.slice ao f.kids.length cap)/\ w'.cell? ⟨w6.heap.size+5,0,none⟩=some (.func (.func 147) #[] #[.pointer (some ⟨w6.heap.size+1,0,none⟩),.pointer (some ⟨w6.heap.size+4,0,none⟩),.pointer (some ⟨w.heap.size+1,0,none⟩),.pointer (some ⟨w6.heap.size+3,0,none⟩),.pointer (some ⟨w6.heap.size+5,0,none⟩)]))/\ Hid (MkS w6.heap.size [w6.heap.size+4] w0 w'))
     (exact HKP.out _ (by assumption))
     (first
      | (go_at_call 152;refine HGV.out.mono ?_;rintro e w7 ⟨u7,rfl,HI7,HS7,HM7⟩)
      | (go_at_call 147;refine(HGW.out _ _ HI7 HS7 HM7).mono ?_;rintro e w8 ⟨rfl,HS8,HM8⟩))
    go_split_ands;have hbs:=bw_size w0 w6.heap.size RR.1.2;have hb8:Below w6.heap.size w6 w8:=(bw_below HB0.out RR.1.2).trans (HS8.out.stp.below (by omega));have hs8:=hb8.size;have hfb8:=(HS8.out.blk (HE.out.bw RR.1.2).fb ⟨by decide,by decide⟩).cell 0;have hmv8:=(HS8.out.blk (HE.out.bw RR.1.2).mv ⟨by decide,by decide⟩).cell 0;have HY8:=Lib.hid (HZ2.out.below hb8);have hy8:=HY8.out.cell 0;have hz8:=HY8.out.frozen 0;have HB8:=Lib.hid (HB6.out.trans (hb8.mono (by omega)));have HTF:=Lib.hid (fun n hn=>(table_few HDK.out HMA.out.inv.made.table n hn).1);have hroot:=HMA.out.lt;have his:=Lib.hid HS8.out.is;have htb:=Lib.hid HMA.out.inv.made.table;obtain⟨⟨⟨T,dn⟩,fl⟩,k⟩:=RR;simp only at*
    clear HS8 HM8 HI7 HS7 HM7 hb8 HKP HGW HGV HIP HMD HMA;cases fl with
    | true=>
     have hg:GG=([],2):=by rw[HGE.out,HRR.out];exact if_pos (.inl rfl)
     go_wp2;have hcs:=(HY8.out.set 0 (.slice none 0 0)).cell 0;refine bodyPost_ret (by simp[results,Tryz.results103,go_sem,hcs];try rfl) rfl ?_;rw[hg];exact⟨_,rfl,DgIn.nil _ _,HB8.out.setCell (by show w.heap.size<=w.heap.size+1+1;omega) _⟩
    | false=>
     by_cases hord:20000<(visitD T (d.length+1) [] k).length
     ·have hg:GG=([],2):=by rw[HGE.out];unfold orderL;rw[HRR.out];exact if_pos (.inr hord)
      have HFR:=Lib.hid (from_full T w6.heap.size w6.heap.size [w6.heap.size+4] k w8 his.out htb.out hroot (by omega) hord);go_wp2_with (go_at_call 111;refine HFR.out.mono ?_;rintro e w9 ⟨rfl,HB9⟩;have c9:=(HY8.out.below HB9).cell 0;have z9:=(HY8.out.below HB9).frozen 0;have HY9:=Lib.hid (HY8.out.below HB9));have hcs:=(HY9.out.set 0 (.slice none 0 0)).cell 0;refine bodyPost_ret (by simp[results,Tryz.results103,go_sem,hcs];try rfl) rfl ?_;rw[hg];exact⟨_,rfl,DgIn.nil _ _,(HB8.out.trans (HB9.mono (by omega))).setCell (by show w.heap.size<=w.heap.size+1+1;omega) _⟩
     ·have hg:GG=(fromD T (visitD T (d.length+1) [] k),0):=by rw[HGE.out];unfold orderL;rw[HRR.out];exact if_neg (by simp;omega)
      have HFR:Hid (Calls Tryz.prog 111 #[.pointer (some ⟨w6.heap.size,0,none⟩),.int .i64 (k:Int)] w8 fun e W'=>∃(au:Option Addr) (cu:Nat),e=.returned (.tuple #[.agg #[.slice au (fromD T (visitD T (d.length+1) [] k)).length cu],.int .i64 0])/\ Hid (DgIn W' W'.heap.size (fromD T (visitD T (d.length+1) [] k)) (.agg #[.slice au (fromD T (visitD T (d.length+1) [] k)).length cu]))/\ Hid (Below w8.heap.size w8 W')):=by
       have q:=from_few T w6.heap.size w6.heap.size [w6.heap.size+4] k w8 his.out htb.out hroot (by omega) (by omega) (fun n hn=>by have:=HTF.out n hn;omega);refine q.mono ?_;rintro e W' ⟨_,rfl,⟨u,rfl,h1⟩,h2⟩;obtain⟨au,cu,rfl,_⟩:=SlIn.shape h1;exact⟨au,cu,rfl,⟨_,rfl,h1⟩,h2⟩
      generalize fromD T (visitD T (d.length+1) [] k)=TT at*
      go_wp2_with (go_at_call 111;refine HFR.out.mono ?_;rintro e w9 ⟨au,cu,rfl,HU9,HB9⟩;have c9:=(HY8.out.below HB9.out).cell 0;have z9:=(HY8.out.below HB9.out).frozen 0;have HY9:=Lib.hid (HY8.out.below HB9.out));have hcs:=(HY9.out.set 0 (.slice au TT.length cu)).cell 0;refine bodyPost_ret (by simp[results,Tryz.results103,go_sem,hcs];try rfl) rfl ?_;have hs9:=HB9.out.size;rw[hg];refine⟨_,rfl,?_,(HB8.out.trans (HB9.out.mono (by omega))).setCell (by show w.heap.size<=w.heap.size+1+1;omega) _⟩;simp only[World.size_setCell];exact HU9.out.set HY9.out _
  ·have hGe:GG=([],1):=by rw[<-HGG.out];unfold buildX;rw[if_pos (.inr hck)]
   subst hGe;have hne:(checkF f d (fun _=>false) !=0)=true:=by simpa using hck
   clear hvd HGG hck;go_enter Tryz.func103,Tryz.ntmps103;go_wp2_with (first | (go_at_call 50;refine HV.out.mono ?_;rintro e w4 ⟨rfl,hb4⟩;have x0:=(HK0.out.below hb4).cell 0;have x1:=(HK0.out.below hb4).cell 1;have x2:=(HK0.out.below hb4).cell 2;have x3:=(HK0.out.below hb4).cell 3;have x4:=(HK0.out.below hb4).cell 4;have y0:=(HK1.out.below hb4).cell 0;have z2:=(HK2.out.below hb4).frozen 0;have c2:=(HK2.out.below hb4).cell 0;have HX0:=Lib.hid (HK0.out.below hb4);have HX1:=Lib.hid (HK1.out.below hb4);have HX2:=Lib.hid (HK2.out.below hb4);have HB4:=Lib.hid (HB3.out.trans (hb4.mono (by simp;omega)));have hs4:=hb4.size;simp only[World.size_alloc]at hs4;clear hb4) | (go_at_call 59;refine(HCK.out _ HB4.out).mono ?_;rintro e w5 ⟨rfl,hb5⟩;clear x0 x1 x2 x3 x4 y0 z2 c2;have x0:=(HX0.out.below hb5).cell 0;have x1:=(HX0.out.below hb5).cell 1;have x2:=(HX0.out.below hb5).cell 2;have x3:=(HX0.out.below hb5).cell 3;have x4:=(HX0.out.below hb5).cell 4;have z2:=(HX2.out.below hb5).frozen 0;have c2:=(HX2.out.below hb5).cell 0;have HY0:=Lib.hid (HX0.out.below hb5);have HY1:=Lib.hid (HX1.out.below hb5);have HY2:=Lib.hid (HX2.out.below hb5);have HB5:=Lib.hid (HB4.out.trans (hb5.mono (by omega)));have hs5:=hb5.size;clear hb5));have hcs:=(HY2.out.set 0 (.slice none 0 0)).cell 0;refine bodyPost_ret (by simp[results,Tryz.results103,go_sem,hcs];try rfl) rfl ?_;exact⟨_,rfl,DgIn.nil _ _,HB5.out.setCell (by show w.heap.size<=w.heap.size+1+1;omega) _⟩
end
end Go.Proofs.YtihniipjfdenbaaGreatDoor
