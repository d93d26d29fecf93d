/- The walk of pandectref14.Few: the sizes of a law. No conditions beyond bounds on n. -/
import Derived.Test.YtmafmhlfjficmaaGreatDoorMemA
import Derived.Deep.QuietTactic
import Derived.BigQuiet
set_option maxRecDepth 100000
set_option maxHeartbeats 400000
namespace Go.Proofs.YtmafmhlfjficmaaGreatDoor
section
open Go.RowKit
def inB (l:List ByteArray)(s:ByteArray):Bool:=l.any fun x=>eqB x s
def sameB :List ByteArray->List ByteArray->Bool
 | [],[]=>true
 | a::l,b::m=>eqB a b&& sameB l m
 | _,_=>false
theorem inB_take (l:List ByteArray)(s:ByteArray)(k:Nat)(h:k<l.length):inB (l.take (k+1)) s=(inB (l.take k) s || eqB l[k] s):=by
 unfold inB;rw[List.take_succ_eq_append_getElem h,List.any_append,List.any_cons,List.any_nil,Bool.or_false]
theorem in_any (l:List ByteArray)(s:ByteArray)(v:Value)(w:World)(B:Nat)(hl:StrsIn w B l v):
  Calls Tryz.prog 24 #[v,.string s] w fun e w'=>e=.returned (.bool (inB l s))/\ w=w':=by
 obtain⟨ao,cap,rfl,h1,h2,h3⟩:=SlIn.shape hl;unfold maxLen at h2;clear h3;have HL:=Lib.hid hl;clear hl;go_enter Tryz.func24,Tryz.ntmps24;go_wp2
 go_loop [5] (fun i=>∃k:Nat,k<=l.length/\ i=.int .i64 k/\ Hid (inB (l.take k) s=false)) (fun i=>l.length-(intOf i).toNat)
 case atStart=>exact⟨0,by omega,rfl,rfl⟩
 case round=>
  obtain⟨k,hk,rfl,hin⟩:=hrel;by_cases hlt:k<l.length
  ·obtain⟨b,off,rfl,hb,hc⟩:∃b off,ao=some ⟨b,off,none⟩/\ b<B/\ w.cell? ⟨b,off+k,none⟩=some (.string l[k]):=by
    obtain⟨_,_,h1,_,_,h4⟩:=HL.out;obtain⟨b,off,ha,hlt',hc⟩:=h4 (by intro e;simp[e]at hlt);simp only[Value.slice.injEq]at h1;exact⟨b,off,by rw[h1.1,ha],hlt',by simpa[OneR]using hc k hlt⟩
   have hs:=inB_take l s k hlt;rw[hin.out,Bool.false_or]at hs;by_cases he:(l[k].toList==s.toList)=true
   ·have HS:Hid (inB l s=true):=by
     show List.any _ _=true
     rw[List.any_eq_true];exact⟨l[k],List.getElem_mem _,he⟩
    clear hs;go_wp2;go_ret;exact⟨ret_bool HS.out.symm,rfl⟩
   ·have he':(l[k].toList==s.toList)=false:=by simpa using he
    have HS:Hid (inB (l.take (k+1)) s=false):=by rw[hs];exact he'
    clear hs he;go_wp2
    go_round
    case rel=>exact⟨k+1,by omega,by go_num,HS⟩
    case measure=>simp[intOf];omega
  ·have HS:Hid (inB l s=false):=by have:=hin.out;rwa[List.take_of_length_le (by omega)]at this
   clear hin;go_wp2;go_ret;exact⟨ret_bool HS.out.symm,rfl⟩
theorem sameB_lens :∀(l m:List ByteArray),l.length≠m.length->sameB l m=false
 | [],[],h=>absurd rfl h
 | [],b::m,_=>rfl
 | a::l,[],_=>rfl
 | a::l,b::m,h=>by simp only[sameB,sameB_lens l m (by simpa using h),Bool.and_false]
theorem sameB_drop (l m:List ByteArray)(k:Nat)(h:k<l.length)(h':k<m.length):sameB (l.drop k) (m.drop k)=(eqB l[k] m[k]&& sameB (l.drop (k+1)) (m.drop (k+1))):=by
 rw[List.drop_eq_getElem_cons h,List.drop_eq_getElem_cons h',sameB]
theorem same_any (l m:List ByteArray)(v u:Value)(w:World)(B:Nat)(hl:StrsIn w B l v)(hm:StrsIn w B m u):
  Calls Tryz.prog 20 #[v,u] w fun e w'=>e=.returned (.bool (sameB l m))/\ ∃n,w'=w.drewN n:=by
 obtain⟨ao,cap,rfl,h1,h2,_⟩:=SlIn.shape hl;obtain⟨bo,cap',rfl,h1',h2',_⟩:=SlIn.shape hm;unfold maxLen at h2 h2';have HL:=Lib.hid hl;have HM:=Lib.hid hm;clear hl hm;by_cases hlen:l.length=m.length
 ·have hd:((l.length:Int) !=m.length)=false:=by simp[hlen]
  have HE:=Lib.hid hlen;clear hlen;go_enter Tryz.func20,Tryz.ntmps20;go_wp2
  go_loopw [5] (fun i wr=>∃k n:Nat,k<=l.length/\ i=.int .i64 k/\ Hid (sameB (l.drop k) (m.drop k)=sameB l m)/\ wr=w.drewN n) (fun i _=>l.length-(intOf i).toNat)
  case atStart=>exact⟨0,0,by omega,rfl,rfl,rfl⟩
  case round=>
   obtain⟨k,n,hk,rfl,hin,rfl⟩:=hrel;by_cases hlt:k<l.length
   ·have hlt':k<m.length:=by have:=HE.out;omega
    obtain⟨b,off,rfl,hb,hc⟩:=SlIn.one HL.out k hlt;obtain⟨b',off',rfl,hb',hc'⟩:=SlIn.one HM.out k hlt';have hs:=sameB_drop l m k hlt hlt';rw[hin.out]at hs;by_cases he:(l[k].toList==m[k].toList)=true
    ·have HS:Hid (sameB (l.drop (k+1)) (m.drop (k+1))=sameB l m):=by rw[hs];unfold eqB;rw[he,Bool.true_and];rfl
     have he':(l[k].toList !=m[k].toList)=false:=by simpa using he
     clear hs hin;go_wp2
     go_quiet(fail)
     go_wp2;go_roundw
     case rel=>exact⟨k+1,_,by omega,by go_num,HS,rfl⟩
     case measure=>simp[intOf];omega
    ·have HS:Hid (sameB l m=false):=by rw[hs];unfold eqB;rw[Bool.eq_false_iff.2 he,Bool.false_and];rfl
     have he':(l[k].toList !=m[k].toList)=true:=by simpa using he
     have he2:(l[k].toList==m[k].toList)=false:=by simpa using he
     clear hs hin he;go_wp2
     go_quiet(fail)
     go_wp2;go_ret;exact⟨ret_bool HS.out.symm,n+nq,by simp⟩
   ·have HS:Hid (sameB l m=true):=by
     have h0:=hin.out;rw[List.drop_of_length_le (by omega),List.drop_of_length_le (by have:=HE.out;omega)]at h0;exact h0.symm
    clear hin;go_wp2;go_ret;exact⟨ret_bool HS.out.symm,_,rfl⟩
 ·have HS:=Lib.hid (sameB_lens l m hlen)
  have hd:((l.length:Int) !=m.length)=true:=by rw[bne_iff_ne];omega
  clear hlen;go_enter Tryz.func20,Tryz.ntmps20;go_wp2;go_ret;exact⟨ret_bool HS.out.symm,0,rfl⟩
end
section
open Go.RowKit
mutual
theorem countF_bd :∀(f:Fo) (most:Int),0<=most->1<=countF f most/\ countF f most<=most+1
 | .mk _ _ _ _ ks,most,h=>by simpa[countF]using countL_bd ks most 1 (by omega) (by omega) (by omega)
theorem countL_bd :∀(ks:List Fo) (most n:Int),0<=most->1<=n->n<=most+1->1<=countL ks most n/\ countL ks most n<=most+1
 | [],most,n,_,h1,h2=>⟨h1,h2⟩
 | k::ks,most,n,h0,h1,h2=>by
  unfold countL
  split
  ·have:=countF_bd k (most-n) (by omega)
   exact countL_bd ks most _ h0 (by omega) (by omega)
  ·exact⟨h1,h2⟩
end
theorem countL_drop (ks:List Fo)(k:Nat)(h:k<ks.length)(most n:Int):
  countL (ks.drop k) most n=if n<=most then countL (ks.drop (k+1)) most (n+countF ks[k] (most-n))else n:=by
 rw[List.drop_eq_getElem_cons h,countL]
theorem count_any (N:Nat):∀(f:Fo) (most:Int) (v:Value) (w:World) (B:Nat),f.size<=N->0<=most->most<=1000000->B<=w.heap.size->f.In w B v->
  Calls Tryz.prog 65 #[v,.int .i64 most] w fun e w'=>e=.returned (.int .i64 (countF f most))/\ Below w.heap.size w w':=by
 induction N with
 | zero=>intro f _ _ _ _ h;have:=f.size_pos;omega
 | succ N ih=>
 intro most' most v w B hN hm0 hm1 hB hf;obtain⟨op,nm,c,n,ks⟩:=most';obtain⟨ao,cap,rfl,h1,h2,h3,h4,h5,h6,h7⟩:=hf
 have IH:Hid (∀(f:Fo) (most:Int) (v:Value) (w:World) (B:Nat),f.size<=N->0<=most->most<=1000000->B<=w.heap.size->f.In w B v->
  Calls Tryz.prog 65 #[v,.int .i64 most] w fun e w'=>e=.returned (.int .i64 (countF f most))/\ Below w.heap.size w w'):=ih
 clear ih h1 h2 h3 h4;unfold maxLen at h6;have HC:Hid (countL ks most 1=countF (.mk op nm c n ks) most):=by rw[countF];rfl
 generalize countF (.mk op nm c n ks) most=R at*
 have H7:=Lib.hid h7;clear h7;go_enter Tryz.func65,Tryz.ntmps65;go_wp2
 go_loopw [5,6] (fun n i wr=>∃(k:Nat) (m:Int),k<=ks.length/\ i=.int .i64 k/\ n=.int .i64 m/\ 1<=m/\ m<=most+1/\ Below w.heap.size w wr/\
  wr.cell? ⟨w.heap.size,4,none⟩=some (.slice ao ks.length cap)/\ w.heap.size<wr.heap.size/\ Hid (countL (ks.drop k) most m=R)) (fun n i _=>ks.length-(intOf i).toNat)
 case atStart=>
  exact⟨0,1,by omega,rfl,rfl,by omega,by omega,(Below.refl _ _).alloc (Nat.le_refl _) _,by go_simp,by simp,by simpa[Hid]using HC⟩
 case round=>
  obtain⟨k,m,hk,rfl,rfl,hm1,hm2,hb,hc4,hsz,hR⟩:=hrel;by_cases hlt:k<ks.length
  ·by_cases hmm:m<=most
   ·obtain⟨b,off,rfl,hbB,hL⟩:=H7.out (by intro h;simp[h]at hlt)
    obtain⟨ka,kc,g0,g1,g2,g3,g4,gk⟩:=Fo.InL.get ks off k hlt (Fo.InL.below (hb.mono hB) hbB ks off hL);have hbd:=countF_bd ks[k] (most-m) (by omega);have hsk:=Fo.size_get ks k hlt;rw[Fo.size]at hN;have GK:=Lib.hid gk;clear gk hL H7 HC;rw[Hid,countL_drop ks k hlt,if_pos hmm]at hR;have HR:=Lib.hid hR;clear hR;go_wp2_with (go_at_call 65;refine(IH.out _ _ _ _ B (by omega) (by omega) (by omega) (by omega) GK.out).mono ?_;rintro e w' ⟨rfl,hb'⟩);go_roundw
    case rel=>
     exact⟨k+1,m+countF ks[k] (most-m),by omega,by go_num,rfl,by omega,by omega,hb.trans (hb'.mono (by omega)),(hb'.cell (by simp;omega)).trans hc4,by have:=hb'.size;omega,HR⟩
    case measure=>simp[intOf];omega
   ·rw[Hid,countL_drop ks k hlt,if_neg hmm]at hR
    have HR:=Lib.hid hR;have hd:decide (m<=most)=false:=by simpa using hmm
    clear hR H7 HC hmm;go_wp2;go_ret;exact⟨ret_int HR.out,hb⟩
  ·have hR':m=R:=by
    have:k=ks.length:=by omega
    subst this
    simpa[Hid,countL]using hR
   have HR:=Lib.hid hR';clear hR' hR H7 HC;go_wp2;go_ret;exact⟨ret_int HR.out,hb⟩
def smallF (f:Fo)(most:Int):Bool:=decide (countF f most<=most)
theorem small_any (f:Fo)(most:Int)(v:Value)(w:World)(B:Nat)(hm0:0<=most)(hm1:most<=1000000)(hB:B<=w.heap.size)(hf:f.In w B v):
  Calls Tryz.prog 49 #[v,.int .i64 most] w fun e w'=>e=.returned (.bool (smallF f most))/\ Below w.heap.size w w':=by
 obtain⟨ao,cap,rfl⟩:=hf.shape;have HF:=Lib.hid hf;clear hf;go_enter Tryz.func49,Tryz.ntmps49;go_wp2_with (go_at_call 65;refine(count_any f.size f most _ _ B (Nat.le_refl _) hm0 hm1 ?_ ?_).mono ?_;(simp;omega);exact Fo.In.below ((Below.refl _ _).alloc (by omega) _) _ _ HF.out;rintro e w' ⟨rfl,hb'⟩);go_ret;exact⟨rfl,((Below.refl _ _).alloc (by omega) _).trans (hb'.mono (by simp))⟩
end
section
open Go.RowKit
def fewP (p:Pv):Bool:=smallF p.cond 250&& decide (p.except.length<=30)&& decide (p.id.size<=100)&& decide (p.name.size<=100)&& p.except.all fun s=>decide (s.size<=100)
def fewL (d:List Fa)(ps:List Pv)(n:Int):Bool:=decide ((ps.length:Int)<=n)&& decide (d.length<=70)&& ps.all fewP
theorem Pv.info :(Tryz.prog.info? 50).map (·.size)=some 23:=by kernel_rfl
theorem fewP_no (p:Pv)(h:(30:Int)<p.except.length\/(100:Int)<p.id.size\/(100:Int)<p.name.size):fewP p=false:=by
 unfold fewP;rcases h with h | h | h
 ·rw[show decide (p.except.length<=30)=false by simp;omega];simp
 ·rw[show decide (p.id.size<=100)=false by simp;omega];simp
 ·rw[show decide (p.name.size<=100)=false by simp;omega];simp
theorem fewP_yes (p:Pv)(hs:smallF p.cond 250=true)(h1:(p.except.length:Int)<=30)(h2:(p.id.size:Int)<=100)(h3:(p.name.size:Int)<=100):
  fewP p=p.except.all fun s=>decide (s.size<=100):=by
 unfold fewP;rw[hs,show decide (p.except.length<=30)=true by simp;omega,show decide (p.id.size<=100)=true by simp;omega,show decide (p.name.size<=100)=true by simp;omega]
 simp
theorem few_any (d:List Fa)(ps:List Pv)(n:Int)(v:Value)(w:World)(B:Nat)(hn0:0<=n)(hn1:n<=1000)(hB:B<=w.heap.size)(hl:LawIn w B d ps v):
  Calls Tryz.prog 29 #[v,.int .i64 n] w fun e w'=>e=.returned (.bool (fewL d ps n))/\ Below w.heap.size w w':=by
 obtain⟨u1,u2,asn,ns,cs,rfl,hd,hp⟩:=hl;obtain⟨ad,cd,rfl,d1,d2,_⟩:=SlIn.shape hd;obtain⟨ap,cp,rfl,p1,p2,_⟩:=SlIn.shape hp;unfold maxLen at d2 p2;have HP:=Lib.hid hp;clear hd hp;by_cases h1:(ps.length:Int)<=n
 ·have h1d:decide (n<(ps.length:Int))=false:=by simpa using h1
  by_cases h2:d.length<=70
  ·have h2d:decide ((70:Int)<(d.length:Int))=false:=by simp;omega
   have HR:Hid (fewL d ps n=ps.all fewP):=by show _=_;unfold fewL;simp[h1,h2]
   generalize fewL d ps n=R at*
   go_enter Tryz.func29,Tryz.ntmps29;go_wp2
   go_loopw [5] (fun i wr=>∃k:Nat,k<=ps.length/\ i=.int .i64 k/\ Hid ((ps.take k).all fewP=true)/\ Below w.heap.size w wr/\ w.heap.size<wr.heap.size/\
    wr.cell? ⟨w.heap.size,1,none⟩=some (.slice ap ps.length cp)) (fun i _=>ps.length-(intOf i).toNat)
   case atStart=>exact⟨0,by omega,rfl,rfl,(Below.refl _ _).alloc (Nat.le_refl _) _,by simp,by go_simp⟩
   case round=>
    obtain⟨k,hk,rfl,hin,hb,hsz,hc1⟩:=hrel;by_cases hlt:k<ps.length
    ·obtain⟨b,off,rfl,hbB,ak,ck,ae,ce,hr,hf,he,hz⟩:=SlIn.at (HP.out.below PvR.kept (hb.mono hB)) k hlt
     have hts:=all_take fewP ps k hlt;rw[hin.out,Bool.true_and]at hts;have hno:fewP ps[k]=false->R=false:=fun h=>by rw[HR.out];exact all_false hlt h
     generalize hpk:ps[k]=p at*
     have HN:=Lib.hid hno;have HT:=Lib.hid hts;have HPK:=Lib.hid hpk;have HF:=Lib.hid hf;have HE:=Lib.hid he;have HZ:=Lib.hid hz;have HRG:=Lib.hid hr;clear hno hts hpk hf he hz hin hr;cases hs:smallF p.cond 250 with
     | false=>
      have HS:=Lib.hid (HN.out (by unfold fewP;simp[hs]))
      go_wp2_with (first
       | ((with_reducible show wpList _ _ _ (⟨_,Op.load 50 (.tmp 30),_,_,_,_⟩::_) _ _);refine wpList_load_pv rfl (.tmp 30) rfl rfl p ak ck ae ce HRG.out Tryz.underlying50 rfl Pv.info ?_)
       | ((with_reducible show wpList _ _ _ (⟨_,Op.store 50 (.tmp 6) (.tmp 31),_,_,_,_⟩::_) _ _);refine wpList_store_pv rfl (.tmp 6) (.tmp 31) rfl p ak ck ae ce rfl rfl ?hs1 Pv.info ?_;(case hs1=>rfl);intro W1 hb1 hz1 hr1 hf1;have e1_0:=hr1 0 _ rfl;have e1_3:=hr1 3 _ rfl;have e1_5:=hr1 5 _ rfl;have e1_6:=hr1 6 _ rfl;have e1_7:=hr1 7 _ rfl;have e1_8:=hr1 8 _ rfl;have e1_9:=hr1 9 _ rfl;have e1_10:=hr1 10 _ rfl;have HR1:=Lib.hid hr1;clear hr1)
       | (go_at_call 49;refine(small_any p.cond 250 _ _ B (by omega) (by omega) ?_ ?_).mono ?_;(omega);exact Fo.In.below (hb1.mono (by omega)) _ _ HF.out;rintro e w2 ⟨rfl,hb2⟩))
      go_ret;exact⟨ret_bool HS.out.symm,(hb.trans (hb1.mono (by omega))).trans (hb2.mono (by omega))⟩
     | true=>
      have HA:=Lib.hid (fewP_yes p hs)
      go_wp2_with (first
       | ((with_reducible show wpList _ _ _ (⟨_,Op.load 50 (.tmp 30),_,_,_,_⟩::_) _ _);refine wpList_load_pv rfl (.tmp 30) rfl rfl p ak ck ae ce HRG.out Tryz.underlying50 rfl Pv.info ?_)
       | ((with_reducible show wpList _ _ _ (⟨_,Op.store 50 (.tmp 6) (.tmp 31),_,_,_,_⟩::_) _ _);refine wpList_store_pv rfl (.tmp 6) (.tmp 31) rfl p ak ck ae ce rfl rfl ?hs1 Pv.info ?_;(case hs1=>rfl);intro W1 hb1 hz1 hr1 hf1;have e1_0:=hr1 0 _ rfl;have e1_3:=hr1 3 _ rfl;have e1_5:=hr1 5 _ rfl;have e1_6:=hr1 6 _ rfl;have e1_7:=hr1 7 _ rfl;have e1_8:=hr1 8 _ rfl;have e1_9:=hr1 9 _ rfl;have e1_10:=hr1 10 _ rfl;have HR1:=Lib.hid hr1;clear hr1)
       | (go_at_call 49;refine(small_any p.cond 250 _ _ B (by omega) (by omega) ?_ ?_).mono ?_;(omega);exact Fo.In.below (hb1.mono (by omega)) _ _ HF.out;rintro e w2 ⟨rfl,hb2⟩;have q10:=(hb2.cell (p:=⟨wr.heap.size,10,none⟩) (by simp;omega)).trans e1_10;have q0:=(hb2.cell (p:=⟨wr.heap.size,0,none⟩) (by simp;omega)).trans e1_0;have q3:=(hb2.cell (p:=⟨wr.heap.size,3,none⟩) (by simp;omega)).trans e1_3;have hz2:=hb2.size))
      ·have HS:=Lib.hid (HN.out (fewP_no p (by omega)))
       go_ret;exact⟨ret_bool HS.out.symm,(hb.trans (hb1.mono (by omega))).trans (hb2.mono (by omega))⟩
      ·have HF':=Lib.hid (HA.out (by omega) (by omega) (by omega))
       have HE2:=Lib.hid (StrsIn.below ((hb1.mono (B':=B) (by omega)).trans (hb2.mono (by omega))) HE.out);have hbb:=Lib.hid ((hb.trans (hb1.mono (by omega))).trans (hb2.mono (by omega)));have c1':=(hb2.cell (p:=⟨w.heap.size,1,none⟩) (by simp;omega)).trans ((hb1.cell (p:=⟨w.heap.size,1,none⟩) (by simp;omega)).trans hc1);have hlen:p.except.length<=30:=by omega
       clear hb1 hb2 HE HA e1_0 e1_3 e1_5 e1_6 e1_7 e1_8 e1_9 e1_10 q0 q3 HR1 hc1
       go_loop [7] (fun i=>∃j:Nat,j<=p.except.length/\ i=.int .i64 j/\ Hid ((p.except.take j).all (fun s=>decide (s.size<=100))=true)) (fun i=>p.except.length-(intOf i).toNat)
       case atStart=>exact⟨0,by omega,rfl,rfl⟩
       case round=>
        obtain⟨j,hj,rfl,hja⟩:=hrel;by_cases hjl:j<p.except.length
        ·obtain⟨b3,o3,rfl,hb3,hc3⟩:=SlIn.one HE2.out j hjl
         have ht:=all_take (fun s:ByteArray=>decide (s.size<=100)) p.except j hjl;rw[hja.out,Bool.true_and]at ht;have HT2:=Lib.hid ht;clear ht;by_cases hsz3:p.except[j].size<=100
         ·have g4:decide ((100:Int)<(p.except[j].size:Int))=false:=by simp;omega
          have HT3:Hid ((p.except.take (j+1)).all (fun s=>decide (s.size<=100))=true):=by have:=HT2.out;show _=_;rw[this];simpa using hsz3
          go_wp2
          go_round
          case rel=>exact⟨j+1,by omega,by go_num,HT3⟩
          case measure=>simp[intOf];omega
         ·have g4:(100:Int)<(p.except[j].size:Int):=by omega
          have HS:=Lib.hid (HN.out (by rw[HF'.out];exact all_false hjl (by simpa using hsz3)));clear hsz3;go_wp2;go_ret;exact⟨ret_bool HS.out.symm,hbb.out⟩
        ·have HY:Hid (fewP p=true):=by
          have:=hja.out;rw[List.take_of_length_le (by omega)]at this
          show _=_
          rw[HF'.out,this]
         clear hja;go_wp2;go_roundw
         case rel=>exact⟨k+1,by omega,by go_num,by have h:=HT.out;rw[HY.out]at h;exact h,hbb.out,by omega,c1'⟩
         case measure=>simp[intOf];omega
      ·have HS:=Lib.hid (HN.out (fewP_no p (by omega)))
       go_ret;exact⟨ret_bool HS.out.symm,(hb.trans (hb1.mono (by omega))).trans (hb2.mono (by omega))⟩
      ·have HS:=Lib.hid (HN.out (fewP_no p (by omega)))
       go_ret;exact⟨ret_bool HS.out.symm,(hb.trans (hb1.mono (by omega))).trans (hb2.mono (by omega))⟩
    ·have HS:Hid (R=true):=by
      have:=hin.out;rw[List.take_of_length_le (by omega)]at this
      show _=_
      rw[HR.out,this]
     clear hin HR;go_wp2;go_ret;exact⟨ret_bool HS.out.symm,hb⟩
  ·have h2d:decide ((70:Int)<(d.length:Int))=true:=by simp;omega
   have HR:Hid (fewL d ps n=false):=by show _=_;unfold fewL;simp[h2]
   generalize fewL d ps n=R at*
   clear h2;go_enter Tryz.func29,Tryz.ntmps29;go_wp2;go_ret;exact⟨ret_bool HR.out.symm,(Below.refl _ _).alloc (Nat.le_refl _) _⟩
 ·have h1d:decide (n<(ps.length:Int))=true:=by simpa using h1
  have HR:Hid (fewL d ps n=false):=by show _=_;unfold fewL;simp[h1]
  generalize fewL d ps n=R at*
  clear h1;go_enter Tryz.func29,Tryz.ntmps29;go_wp2;go_ret;exact⟨ret_bool HR.out.symm,(Below.refl _ _).alloc (Nat.le_refl _) _⟩
end
end Go.Proofs.YtmafmhlfjficmaaGreatDoor
