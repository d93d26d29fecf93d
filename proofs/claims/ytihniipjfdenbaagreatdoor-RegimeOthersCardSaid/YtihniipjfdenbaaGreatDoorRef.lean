/- The walks of the reference: pandectref05's names, pandectref06's domains, pandectref07's formulas; their plain halves. A bound on the number of nodes. -/
import Derived.Test.YtihniipjfdenbaaGreatDoorHoldsA
import Derived.StillTailTactics
import Derived.Test.YtihniipjfdenbaaGreatDoorDgTM
set_option maxRecDepth 100000
set_option maxHeartbeats 8000000
namespace Go.Proofs.YtihniipjfdenbaaGreatDoor
open Go.RowKit
def letB (c:Int):Bool:=decide ((97<=c/\ c<=122)\/(65<=c/\ c<=90))
def digB (c:Int):Bool:=decide (48<=c/\ c<=57)
def worB (c:Int):Bool:=decide (((97<=c/\ c<=122)\/(65<=c/\ c<=90))\/(48<=c/\ c<=57)\/c=95)
theorem let_wor {c:Int}(h:letB c=true):worB c=true:=by
 unfold letB at h;unfold worB;rw[decide_eq_true_eq]at h⊢;exact .inl h
theorem okB_zero (c:Nat):okB 0 c=letB c:=by unfold okB letB;congr 1;simp
theorem okB_pos {k:Nat}(h:k≠0)(c:Nat):okB k c=worB c:=by unfold okB worB;congr 1;simp[h]
theorem okAll_pos :∀(l:List UInt8) (k:Nat),k≠0->okAll l k=l.all fun c=>worB (c.toNat:Int)
 | [],_,_=>rfl
 | c::l,k,h=>by rw[okAll,List.all_cons,okB_pos h,okAll_pos l (k+1) (by omega)]
def nameR (s:ByteArray):Bool:=(s.data.toList.all fun c=>worB (c.toNat:Int))&& (decide (0<s.size)&& decide (s.size<=24)&& letB ((s.data.toList.headD 0).toNat:Int))
theorem nameR_eq (s:ByteArray):nameR s=nameB s:=by
 unfold nameR nameB;rw[isEmpty_size];have hs:s.size=s.data.toList.length:=by simp
 rw[hs];cases s.data.toList with| nil=>simp| cons c l=>{rw[okAll,okB_zero,okAll_pos l 1 (by decide),List.all_cons,List.headD_cons];(have h0:decide (0<(c::l).length)=true:=by simp);(have h1:decide ((c::l).length=0)=false:=by simp);rw[h0,h1];cases hl:letB (c.toNat:Int)with| true=>rw[let_wor hl];simp| false=>simp}
def okR (d:List Fa)(f:Fa)(i:Nat):Bool:=
 nameB f.name&& (idxD d f.name==(i:Int))&& decide (0<=f.lo)&& decide (f.lo<=f.hi)&& decide (f.hi<=1000000)&& (decide (1<=f.kind)&& decide (f.kind<=3))&& !((f.kind==1)&& ((f.lo !=0) || (f.hi !=1)))
theorem kinds_eq (f:Fa):(flagB f || otherB f)=(decide (0<=f.lo)&& decide (f.lo<=f.hi)&& decide (f.hi<=1000000)&& (decide (1<=f.kind)&& decide (f.kind<=3))&& !((f.kind==1)&& ((f.lo !=0) || (f.hi !=1)))):=by
 rw[Bool.eq_iff_iff];simp only[flagB,otherB,Bool.or_eq_true,Bool.and_eq_true,beq_iff_eq,decide_eq_true_eq,Bool.not_eq_true',Bool.and_eq_false_iff,Bool.or_eq_false_iff,bne_eq_false_iff_eq,beq_eq_false_iff_ne];omega
theorem idxFrom_at {α:Type}(p:α->Bool):∀(l:List α) (k:Int) (i:Nat) (hi:i<l.length),0<=k->p l[i]=true->(idxFrom p l k=k+i↔∀j,∀h:j<i,p (l[j]'(by omega))=false)
 | x::l,k,0,_,_,h=>by{simp only[List.getElem_cons_zero]at h;rw[idxFrom,if_pos h];simp}
 | x::l,k,i+1,hi,hk,h=>by{simp only[List.getElem_cons_succ]at h;rw[idxFrom];have ih:=idxFrom_at p l (k+1) i (by simpa using hi) (by omega) h;constructor;{intro e j hj;(split at e);{omega};{rename_i hx;cases j with| zero=>simpa using hx| succ j=>exact ih.1 (by rw[e];omega) j (by omega)}};{intro hall;have hx:p x=false:=hall 0 (by omega);rw[if_neg (by rw[hx];decide),ih.2 (fun j hj=>hall (j+1) (by omega))];omega}}
theorem seenL_none (d:List Fa)(s:ByteArray):((seenL d).lookup s).isNone= !(d.any fun f=>eqB f.name s):=by
 induction d with| nil=>rfl| cons f d ih=>{simp only[seenL,List.map_cons,List.lookup_cons]at ih⊢;by_cases h:s=f.name;{subst h;simp[eqB]};{(have h1:(s==f.name)=false:=by simpa using h);(have h2:eqB f.name s=false:=Bool.eq_false_iff.2 fun e=>h (by unfold eqB at e;rw[<-eqB_eq]at e;simpa using(beq_iff_eq.1 e).symm));rw[h1,List.any_cons,h2];exact ih}}
theorem okFrom_all (d:List Fa):∀(m k:Nat),k+m=d.length->(okFrom (d.drop k) (seenL (d.take k))=true↔∀i,∀h:i<d.length,k<=i->okR d d[i] i=true)
 | 0,k,e=>by{rw[List.drop_of_length_le (by omega),okFrom];exact⟨fun _ i hi hk=>by omega,fun _=>rfl⟩}
 | m+1,k,e=>by{(have hk:k<d.length:=by omega);have key:((flagB d[k] || otherB d[k])&& nameB d[k].name&& ((seenL (d.take k)).lookup d[k].name).isNone)=okR d d[k] k:=by{rw[kinds_eq];have hx:((seenL (d.take k)).lookup d[k].name).isNone=(idxD d d[k].name==(k:Int)):=by{rw[seenL_none,Bool.eq_iff_iff,Bool.not_eq_true',List.any_eq_false,beq_iff_eq];unfold idxD;have h:=idxFrom_at (fun f:Fa=>eqB f.name d[k].name) d 0 k hk (Int.le_refl _) (by simp[eqB]);rw[Int.zero_add]at h;rw[h];constructor;{intro hh j hj;have:=hh (d[j]'(by omega)) (by rw[List.mem_take_iff_getElem];exact⟨j,by omega,rfl⟩);simpa using this};{intro hh f hf;obtain⟨j,hj,rfl⟩:=List.mem_take_iff_getElem.1 hf;have:=hh j (by omega);simpa using this}};rw[hx];unfold okR;cases nameB d[k].name<;>cases(idxD d d[k].name==(k:Int))<;>simp};rw[okFrom_drop d k hk,key,Bool.and_eq_true,okFrom_all d m (k+1) (by omega)];constructor;{rintro⟨h1,h2⟩ i hi hki;by_cases hik:i=k;{subst hik;exact h1};{exact h2 i hi (by omega)}};{intro h;exact⟨h k hk (Nat.le_refl _),fun i hi hki=>h i hi (by omega)⟩}}
def validR (d:List Fa)(k:Nat):Bool:=(List.range k).all fun i=>match d[i]? with | some f=>okR d f i | none=>true
theorem validR_succ (d:List Fa)(k:Nat)(h:k<d.length):validR d (k+1)=(validR d k&& okR d d[k] k):=by
 unfold validR;rw[List.range_succ,List.all_append,List.all_cons,List.all_nil,Bool.and_true,List.getElem?_eq_getElem h]
theorem validR_false {d:List Fa}{k:Nat}(h:k<d.length)(hf:okR d d[k] k=false):validR d d.length=false:=by
 unfold validR;rw[List.all_eq_false];exact⟨k,List.mem_range.2 h,by rw[List.getElem?_eq_getElem h];simp[hf]⟩
theorem validR_eq (d:List Fa):validD d=(validR d d.length&& decide (d.length<=60)):=by
 unfold validD;congr 1
 rw[Bool.eq_iff_iff];have h:=okFrom_all d d.length 0 (by omega);simp only[List.drop_zero,List.take_zero]at h;rw[show seenL []=[]from rfl]at h;rw[h];unfold validR;rw[List.all_eq_true];constructor
 {intro hh i hi;have hi:=List.mem_range.1 hi;rw[List.getElem?_eq_getElem hi];exact hh i hi (Nat.zero_le _)}
 {intro hh i hi _;have:=hh i (List.mem_range.2 hi);rwa[List.getElem?_eq_getElem hi]at this}
theorem firstErr_split (d:List Fa)(kn:ByteArray->Bool):∀(a b:List Fo),firstErr d kn (a++b)=if firstErr d kn a=0 then firstErr d kn b else firstErr d kn a
 | [],_=>by rw[List.nil_append,firstErr,if_pos rfl]
 | x::a,b=>by{rw[List.cons_append,firstErr,firstErr];by_cases h:nodeErr d kn x=0;{rw[if_pos h,if_pos h];exact firstErr_split d kn a b};{rw[if_neg h,if_neg h,if_neg h]}}
def kidsErr (d:List Fa)(kn:ByteArray->Bool):List Fo->Int
 | []=>0
 | x::l=>if firstErr d kn (nodesL x)=0 then kidsErr d kn l else firstErr d kn (nodesL x)
theorem kidsErr_eq (d:List Fa)(kn:ByteArray->Bool):∀ks,firstErr d kn (nodesLL ks)=kidsErr d kn ks
 | []=>rfl
 | k::ks=>by rw[nodesLL,firstErr_split,kidsErr,kidsErr_eq d kn ks]
theorem nodeR_eq (d:List Fa)(kn:ByteArray->Bool)(op:Int)(nm:ByteArray)(c n:Int)(ks:List Fo):firstErr d kn (nodesL (.mk op nm c n ks))=if nodeErr d kn (.mk op nm c n ks)=0 then kidsErr d kn ks else nodeErr d kn (.mk op nm c n ks):=by
 rw[nodesL,firstErr,kidsErr_eq]
theorem kidsErr_drop (d:List Fa)(kn:ByteArray->Bool)(ks:List Fo)(k:Nat)(h:k<ks.length):kidsErr d kn (ks.drop k)=if firstErr d kn (nodesL ks[k])=0 then kidsErr d kn (ks.drop (k+1))else firstErr d kn (nodesL ks[k]):=by
 rw[List.drop_eq_getElem_cons h,kidsErr]
open Go.RowKit
theorem wor_eq (c:Int):worB c=(letB c || digB c || (c==95)):=by
 rw[Bool.eq_iff_iff];simp only[worB,letB,digB,Bool.or_eq_true,decide_eq_true_eq,beq_iff_eq];omega
theorem letter_any (c:Int)(h0:0<=c)(h1:c<=255)(b:Bool)(hb:letB c=b)(w:World):Calls Tryz.prog 82 #[.int .u8 c] w fun e w'=>e=.returned (.bool b)/\ w'=w:=by
 subst hb;rcases byte_cls c h0 h1 with⟨hc,hc',t1,t2,t3,t4,t5,t6,t7⟩ | ⟨hc,hc',t1,t2,t3,t4,t5,t6,t7⟩ | ⟨hc,hc',t1,t2,t3,t4,t5,t6,t7⟩ | ⟨hc,hc',t1,t2,t3,t4,t5,t6,t7⟩ | ⟨hc,hc',t1,t2,t3,t4,t5,t6,t7⟩ | ⟨hc,hc',t1,t2,t3,t4,t5,t6,t7⟩ | ⟨hc,hc',t1,t2,t3,t4,t5,t6,t7⟩ | ⟨hc,hc',t1,t2,t3,t4,t5,t6,t7⟩ | ⟨hc,hc',t1,t2,t3,t4,t5,t6,t7⟩
 all_goals
  go_enter Tryz.func82,Tryz.ntmps82;go_wp2;go_ret
  first
  | exact⟨ret_bool (decide_eq_true (by omega)).symm,rfl⟩
  | exact⟨ret_bool (decide_eq_false (by omega)).symm,rfl⟩
theorem digit_any (c:Int)(h0:0<=c)(h1:c<=255)(b:Bool)(hb:digB c=b)(w:World):Calls Tryz.prog 121 #[.int .u8 c] w fun e w'=>e=.returned (.bool b)/\ w'=w:=by
 subst hb;rcases byte_cls c h0 h1 with⟨hc,hc',t1,t2,t3,t4,t5,t6,t7⟩ | ⟨hc,hc',t1,t2,t3,t4,t5,t6,t7⟩ | ⟨hc,hc',t1,t2,t3,t4,t5,t6,t7⟩ | ⟨hc,hc',t1,t2,t3,t4,t5,t6,t7⟩ | ⟨hc,hc',t1,t2,t3,t4,t5,t6,t7⟩ | ⟨hc,hc',t1,t2,t3,t4,t5,t6,t7⟩ | ⟨hc,hc',t1,t2,t3,t4,t5,t6,t7⟩ | ⟨hc,hc',t1,t2,t3,t4,t5,t6,t7⟩ | ⟨hc,hc',t1,t2,t3,t4,t5,t6,t7⟩
 all_goals
  go_enter Tryz.func121,Tryz.ntmps121;go_wp2;go_ret
  first
  | exact⟨ret_bool (decide_eq_true (by omega)).symm,rfl⟩
  | exact⟨ret_bool (decide_eq_false (by omega)).symm,rfl⟩
theorem word_any (c:Int)(h0:0<=c)(h1:c<=255)(b:Bool)(hb:worB c=b)(w:World):Calls Tryz.prog 81 #[.int .u8 c] w fun e w'=>e=.returned (.bool b)/\ w'=w:=by
 rw[wor_eq]at hb;subst hb;cases hl:letB c<;>cases hd:digB c<;>cases h5:(c==95)
 all_goals
  have CL:=fun w=>Lib.hid (letter_any c h0 h1 _ hl w)
  have CD:=fun w=>Lib.hid (digit_any c h0 h1 _ hd w)
  clear hl hd;go_enter Tryz.func81,Tryz.ntmps81
  go_wp2_with (first
   | (go_at_call 82;refine(CL _).out.mono ?_;rintro e w2 ⟨rfl,rfl⟩)
   | (go_at_call 121;refine(CD _).out.mono ?_;rintro e w2 ⟨rfl,rfl⟩))
  go_ret;exact⟨rfl,rfl⟩
theorem bytes_take (s:ByteArray)(k:Nat)(h:k<s.size):(s.data.toList.take (k+1)).all (fun c=>worB (c.toNat:Int))=((s.data.toList.take k).all (fun c=>worB (c.toNat:Int))&& worB (s[k].toNat:Int)):=by
 rw[List.take_succ_eq_append_getElem (by simpa using h),List.all_append,List.all_cons,List.all_nil,Bool.and_true]
 rfl
theorem refName_any (s:ByteArray)(w:World)(hs:s.size<=maxLen)(b:Bool)(hb:nameB s=b):
  Calls Tryz.prog 52 #[.string s] w fun e w'=>e=.returned (.bool b)/\ w'=w:=by
 subst hb;unfold maxLen at hs;have HR:Hid (nameB s=((s.data.toList.all fun c=>worB (c.toNat:Int))&& (decide (0<s.size)&& decide (s.size<=24)&& letB ((s.data.toList.headD 0).toNat:Int)))):=(nameR_eq s).symm;generalize nameB s=R at*
 go_enter Tryz.func52,Tryz.ntmps52;go_wp2
 go_loopw [3] (fun i wr=>∃k:Nat,k<=s.size/\ i=.int .i64 k/\ wr=w/\ Hid ((s.data.toList.take k).all (fun c=>worB (c.toNat:Int))=true)) (fun i _=>s.size-(intOf i).toNat)
 case atStart=>exact⟨0,by omega,rfl,rfl,rfl⟩
 case round=>
  obtain⟨k,hk,rfl,hww,hin⟩:=hrel;obtain rfl:w=wr:=hww.symm;by_cases hlt:k<s.size
  {have ho:=bytes_take s k hlt;rw[hin.out,Bool.true_and]at ho;(have hno:worB (s[k].toNat:Int)=false->R=false:=fun h=>by{rw[HR.out,show(s.data.toList.all fun c=>worB (c.toNat:Int))=false from List.all_eq_false.2 ⟨s[k],by rw[List.mem_iff_getElem];exact⟨k,by simpa using hlt,rfl⟩,by simp[h]⟩];rfl});have HN:=Lib.hid hno;have HO:=Lib.hid ho;(have b0:(0:Int)<=(s[k].toNat:Int):=by omega);(have b1:(s[k].toNat:Int)<=255:=by have:=s[k].toNat_lt;omega);clear hno ho hin;cases hx:worB (s[k].toNat:Int)with| false=>{(have CW:=fun w=>Lib.hid (word_any _ b0 b1 _ hx w));have HS:=Lib.hid (HN.out hx);clear hx;go_wp2_with (go_at_call 81;refine(CW _).out.mono ?_;rintro e w2 ⟨rfl,rfl⟩);go_ret;exact⟨ret_bool HS.out.symm,rfl⟩}| true=>{(have CW:=fun w=>Lib.hid (word_any _ b0 b1 _ hx w));have HS:=Lib.hid (HO.out.trans hx);clear hx;go_wp2_with (go_at_call 81;refine(CW _).out.mono ?_;rintro e w2 ⟨rfl,rfl⟩);go_roundw;(case rel=>exact⟨k+1,by omega,by go_num,by trivial,HS⟩);case measure=>simp[intOf];omega}}
  ·have hall:(s.data.toList.all fun c=>worB (c.toNat:Int))=true:=by
    have:=hin.out
    rwa[List.take_of_length_le (by simp;omega)]at this
   have HR2:Hid (R=(decide (0<s.size)&& decide (s.size<=24)&& letB ((s.data.toList.headD 0).toNat:Int))):=by show _=_;rw[HR.out,hall,Bool.true_and]
   clear hin hall HR;by_cases h0:s.size=0
   {have g0:decide ((0:Int)<(s.size:Int))=false:=decide_eq_false (by omega);have HS:=Lib.hid (show R=false by rw[HR2.out,decide_eq_false (show ¬0<s.size by omega)];rfl);go_wp2;go_ret;exact⟨ret_bool HS.out.symm,rfl⟩}
   {have g0:decide ((0:Int)<(s.size:Int))=true:=decide_eq_true (by omega);(have g0':0<s.size:=by omega);by_cases h24:s.size<=24;{have g1:decide ((s.size:Int)<=24)=true:=decide_eq_true (by omega);(have hlt0:0<s.size:=by omega);have hh:(s.data.toList.headD 0)=s[0]:=by{(have:s.data.toList≠[]:=fun e=>h0 (by have:=congrArg List.length e;simpa using this));cases hd:s.data.toList with| nil=>exact absurd hd this| cons a l=>{show a=s[0];(have h1:s.data.toList[0]? =some a:=by rw[hd];rfl);(have h2:s.data.toList[0]? =some s[0]:=by rw[List.getElem?_eq_getElem (by simpa using hlt0)];rfl);rw[h1]at h2;exact Option.some.inj h2}};have HS:=Lib.hid (show R=letB (s[0].toNat:Int) by rw[HR2.out,hh,decide_eq_true hlt0,decide_eq_true h24];simp);(have b0:(0:Int)<=(s[0].toNat:Int):=by omega);(have b1:(s[0].toNat:Int)<=255:=by have:=s[0].toNat_lt;omega);(have CL:=fun w=>Lib.hid (letter_any _ b0 b1 _ rfl w));clear hh h0 h24;go_wp2_with (go_at_call 82;refine(CL _).out.mono ?_;rintro e w2 ⟨rfl,rfl⟩);go_ret;exact⟨ret_bool HS.out.symm,rfl⟩};{have g1:decide ((s.size:Int)<=24)=false:=decide_eq_false (by omega);have HS:=Lib.hid (show R=false by rw[HR2.out,decide_eq_false h24];simp);clear h0 h24;go_wp2;go_ret;exact⟨ret_bool HS.out.symm,rfl⟩}}
theorem refName7_any (s:ByteArray)(w:World)(hs:s.size<=maxLen)(b:Bool)(hb:nameB s=b):
  Calls Tryz.prog 171 #[.string s] w fun e w'=>e=.returned (.bool b)/\ w'=w:=by
 subst hb;unfold maxLen at hs;have HR:Hid (nameB s=(okAll s.data.toList 0&& !s.toList.isEmpty&& decide (s.size<=24))):=rfl;generalize nameB s=R at*
 go_enter Tryz.func171,Tryz.ntmps171;go_wp2
 go_loopw [3] (fun i wr=>∃k:Nat,k<=s.size/\ i=.int .i64 k/\ wr=w/\ Hid (okAll (s.data.toList.drop k) k=okAll s.data.toList 0)) (fun i _=>s.size-(intOf i).toNat)
 case atStart=>exact⟨0,by omega,rfl,rfl,rfl⟩
 case round=>
  obtain⟨k,hk,rfl,hww,hin⟩:=hrel;obtain rfl:w=wr:=hww.symm;by_cases hlt:k<s.size
  ·have ho:=okAll_drop s k hlt
   rw[hin.out]at ho;have HO:=Lib.hid ho;clear ho hin;have hyes:okB k s[k].toNat=true->okAll (s.data.toList.drop (k+1)) (k+1)=okAll s.data.toList 0:=fun h=>by rw[HO.out,h,Bool.true_and]
   have hno:okB k s[k].toNat=false->R=false:=fun h=>by rw[HR.out,HO.out,h];simp
   have HY:=Lib.hid hyes;have HN:=Lib.hid hno;clear hyes hno HO HR;have hcl:=byte_cls (s[k].toNat:Int) (by omega) (by have:=s[k].toNat_lt;omega);obtain⟨kz,hkz⟩:∃kz,((k:Int)==0)=kz:=⟨_,rfl⟩
   have hkz2:(k=0/\ kz=true)\/(k≠0/\ kz=false):=by{by_cases h:k=0;{left;exact⟨h,by rw[<-hkz];simp[h]⟩};{right;exact⟨h,by rw[<-hkz];simp[h]⟩}}
   obtain⟨u1,hu1⟩:∃u1,decide ((s[k].toNat:Int)<48)=u1:=⟨_,rfl⟩;obtain⟨u2,hu2⟩:∃u2,decide ((57:Int)<(s[k].toNat:Int))=u2:=⟨_,rfl⟩;obtain⟨u3,hu3⟩:∃u3,((s[k].toNat:Int) !=95)=u3:=⟨_,rfl⟩;have v1:u1= !(decide ((48:Int)<=(s[k].toNat:Int))):=by rw[<-hu1];by_cases h:(s[k].toNat:Int)<48<;>simp[h]<;>omega
   have v2:u2= !(decide ((s[k].toNat:Int)<=57)):=by rw[<-hu2];by_cases h:(57:Int)<(s[k].toNat:Int)<;>simp[h]<;>omega
   have v3:u3= !((s[k].toNat:Int)==95):=by rw[<-hu3];rfl
   rcases hcl with⟨hc,hc',t1,t2,t3,t4,t5,t6,t7⟩ | ⟨hc,hc',t1,t2,t3,t4,t5,t6,t7⟩ | ⟨hc,hc',t1,t2,t3,t4,t5,t6,t7⟩ | ⟨hc,hc',t1,t2,t3,t4,t5,t6,t7⟩ | ⟨hc,hc',t1,t2,t3,t4,t5,t6,t7⟩ | ⟨hc,hc',t1,t2,t3,t4,t5,t6,t7⟩ | ⟨hc,hc',t1,t2,t3,t4,t5,t6,t7⟩ | ⟨hc,hc',t1,t2,t3,t4,t5,t6,t7⟩ | ⟨hc,hc',t1,t2,t3,t4,t5,t6,t7⟩<;>
    rcases hkz2 with⟨rfl,rfl⟩ | ⟨hk0,rfl⟩
   all_goals
    rw[t5]at v1;rw[t6]at v2;rw[t7]at v3;subst v1 v2 v3
    try(have hkp:0<k:=(by omega);clear hk0)
    go_wp2
    first
    | (go_ret;exact⟨ret_bool (HN.out (decide_eq_false (by omega))).symm,rfl⟩)
    | (go_roundw;(case rel=>first | exact⟨k+1,by omega,by go_num,by trivial,HY.out (decide_eq_true (by omega))⟩ | exact⟨0+1,by omega,by go_num,by trivial,HY.out (decide_eq_true (by omega))⟩);(case measure=>first | (simp[intOf];omega) | simp[intOf]))
  ·have HR2:Hid (R=(!s.toList.isEmpty&& decide (s.size<=24))):=by
    have h0:=hin.out;rw[List.drop_of_length_le (by simp;omega),okAll]at h0
    show _=_
    rw[HR.out, <-h0];simp
   clear hin HR;have hemp:=isEmpty_size s;by_cases h0:s.size=0
   {rw[decide_eq_true h0]at hemp;rw[hemp]at HR2;have g0:decide ((0:Int)<(s.size:Int))=false:=decide_eq_false (by omega);go_wp2;go_ret;exact⟨ret_bool (by rw[HR2.out];simp),rfl⟩}
   {rw[decide_eq_false h0]at hemp;rw[hemp]at HR2;have g0:decide ((0:Int)<(s.size:Int))=true:=decide_eq_true (by omega);(have g0':0<s.size:=by omega);by_cases h24:s.size<=24;{have g1:decide ((s.size:Int)<=24)=true:=decide_eq_true (by omega);rw[decide_eq_true h24]at HR2;clear h0;go_wp2;go_ret;exact⟨ret_bool (by rw[HR2.out];simp),rfl⟩};{have g1:decide ((s.size:Int)<=24)=false:=decide_eq_false (by omega);rw[decide_eq_false h24]at HR2;clear h0 h24;go_wp2;go_ret;exact⟨ret_bool (by rw[HR2.out];simp),rfl⟩}}
open Go.RowKit
theorem idxD_drop (d:List Fa)(s:ByteArray)(k:Nat)(h:k<d.length):idxFrom (fun f:Fa=>eqB f.name s) (d.drop k) k=if eqB d[k].name s then(k:Int)else idxFrom (fun f:Fa=>eqB f.name s) (d.drop (k+1)) ((k+1:Nat):Int):=by
 rw[idxFrom_drop _ _ _ h]
 rfl
theorem refIndex6_any (d:List Fa)(s:ByteArray)(v:Value)(w:World)(B:Nat)(hB:B<=w.heap.size)(hd:DomIn w B d v):
  Calls Tryz.prog 80 #[v,.string s] w fun e w'=>e=.returned (.int .i64 (idxD d s))/\ Below w.heap.size w w':=by
 obtain⟨u,rfl,hd⟩:=hd;obtain⟨ad,cd,rfl,d1,d2,_⟩:=SlIn.shape hd;unfold maxLen at d2;have hb1:Below w.heap.size w (w.alloc (.cells #[.slice ad d.length cd] 25)):=(Below.refl _ _).alloc (Nat.le_refl _) _;have x0:(w.alloc (.cells #[.slice ad d.length cd] 25)).cell? ⟨w.heap.size,0,none⟩=some (.slice ad d.length cd):=by rw[World.cell?_alloc_at _ _ _ _ rfl];rfl
 have HD:=Lib.hid hd;have HB:=Lib.hid hb1;have HR:Hid (idxD d s=idxFrom (fun f=>eqB f.name s) (d.drop 0) (0:Nat)):=rfl;generalize idxD d s=R at*
 clear hd hb1;go_enter Tryz.func80,Tryz.ntmps80;go_wp2
 go_loopw [5] (fun i wr=>∃k:Nat,k<=d.length/\ i=.int .i64 k/\ Hid (R=idxFrom (fun f=>eqB f.name s) (d.drop k) k)/\ wr=(w.alloc (.cells #[.slice ad d.length cd] 25))) (fun i _=>d.length-(intOf i).toNat)
 case atStart=>exact⟨0,by omega,rfl,HR,rfl⟩
 case round=>
  obtain⟨k,hk,rfl,hin,hww⟩:=hrel;subst hww;by_cases hlt:k<d.length
  {obtain⟨b,off,rfl,hbB,f0,_⟩:=SlIn.at (HD.out.below FaR.kept (HB.out.mono hB)) k hlt;have ho:=idxD_drop d s k hlt;have hin2:=hin.out;rw[ho]at hin2;have k0:(0:Int)<=(k:Int):=Int.natCast_nonneg _;(have k1:(k:Int)<(d.length:Int):=by omega);generalize d[k].name=id at*;have HI:=Lib.hid hin2;clear ho hin2 hin;by_cases he:(id.toList==s.toList)=true;{have HS:=Lib.hid (show R=(k:Int) by rw[HI.out];unfold eqB;rw[if_pos he]);go_wp2;go_ret;exact⟨ret_int HS.out.symm,HB.out⟩};{(have he':(id.toList==s.toList)=false:=by simpa using he);have HS:=Lib.hid (show R=idxFrom (fun f:Fa=>eqB f.name s) (d.drop (k+1)) ((k+1:Nat):Int) by rw[HI.out];unfold eqB;rw[if_neg he]);clear he;go_wp2;go_roundw;(case rel=>exact⟨k+1,by omega,by go_num,HS,by trivial⟩);case measure=>simp[intOf];omega}}
  ·have HS:=Lib.hid (show R= -1 by
    have h0:=hin.out
    rw[List.drop_of_length_le (by omega)]at h0
    exact h0)
   clear hin;go_wp2;go_ret;exact⟨ret_int HS.out.symm,HB.out⟩
theorem refIndex7_any (d:List Fa)(s:ByteArray)(v:Value)(w:World)(B:Nat)(hB:B<=w.heap.size)(hd:DomIn w B d v):
  Calls Tryz.prog 124 #[v,.string s] w fun e w'=>e=.returned (.int .i64 (idxD d s))/\ Below w.heap.size w w':=by
 obtain⟨u,rfl,hd⟩:=hd;obtain⟨ad,cd,rfl,d1,d2,_⟩:=SlIn.shape hd;unfold maxLen at d2;have hb1:Below w.heap.size w (w.alloc (.cells #[.slice ad d.length cd] 25)):=(Below.refl _ _).alloc (Nat.le_refl _) _;have x0:(w.alloc (.cells #[.slice ad d.length cd] 25)).cell? ⟨w.heap.size,0,none⟩=some (.slice ad d.length cd):=by rw[World.cell?_alloc_at _ _ _ _ rfl];rfl
 have HD:=Lib.hid hd;have HB:=Lib.hid hb1;have HR:Hid (idxD d s=idxFrom (fun f=>eqB f.name s) (d.drop 0) (0:Nat)):=rfl;generalize idxD d s=R at*
 clear hd hb1;go_enter Tryz.func124,Tryz.ntmps124;go_wp2
 go_loopw [5] (fun i wr=>∃k:Nat,k<=d.length/\ i=.int .i64 k/\ Hid (R=idxFrom (fun f=>eqB f.name s) (d.drop k) k)/\ wr=(w.alloc (.cells #[.slice ad d.length cd] 25))) (fun i _=>d.length-(intOf i).toNat)
 case atStart=>exact⟨0,by omega,rfl,HR,rfl⟩
 case round=>
  obtain⟨k,hk,rfl,hin,hww⟩:=hrel;subst hww;by_cases hlt:k<d.length
  {obtain⟨b,off,rfl,hbB,f0,_⟩:=SlIn.at (HD.out.below FaR.kept (HB.out.mono hB)) k hlt;have ho:=idxD_drop d s k hlt;have hin2:=hin.out;rw[ho]at hin2;have k0:(0:Int)<=(k:Int):=Int.natCast_nonneg _;(have k1:(k:Int)<(d.length:Int):=by omega);generalize d[k].name=id at*;have HI:=Lib.hid hin2;clear ho hin2 hin;by_cases he:(id.toList==s.toList)=true;{have HS:=Lib.hid (show R=(k:Int) by rw[HI.out];unfold eqB;rw[if_pos he]);go_wp2;go_ret;exact⟨ret_int HS.out.symm,HB.out⟩};{(have he':(id.toList==s.toList)=false:=by simpa using he);have HS:=Lib.hid (show R=idxFrom (fun f:Fa=>eqB f.name s) (d.drop (k+1)) ((k+1:Nat):Int) by rw[HI.out];unfold eqB;rw[if_neg he]);clear he;go_wp2;go_roundw;(case rel=>exact⟨k+1,by omega,by go_num,HS,by trivial⟩);case measure=>simp[intOf];omega}}
  ·have HS:=Lib.hid (show R= -1 by
    have h0:=hin.out
    rw[List.drop_of_length_le (by omega)]at h0
    exact h0)
   clear hin;go_wp2;go_ret;exact⟨ret_int HS.out.symm,HB.out⟩
theorem refSize_any (N:Nat):∀(f:Fo) (v:Value) (w:World) (B:Nat),f.size<=N->f.size<=1000000->B<=w.heap.size->f.In w B v->
  Calls Tryz.prog 122 #[v] w fun e w'=>e=.returned (.tuple #[.int .i64 f.size,.int .i64 f.depth])/\ Below w.heap.size w w':=by
 induction N with
 | zero=>intro f _ _ _ h;have:=f.size_pos;omega
 | succ N ih=>
 intro f v w B hN hM hB hf;have IH:=Lib.hid ih;clear ih;obtain⟨op,nm,c,n,ks⟩:=f;obtain⟨ao,cap,rfl,h1,h2,h3,h4,h5,h6,h7⟩:=hf;unfold maxLen at h6;have H7:=Lib.hid h7;have HS:=Lib.hid (show(Fo.mk op nm c n ks).size=Fo.sizeL ks+1 by rw[Fo.size]);have HD:=Lib.hid (show(Fo.mk op nm c n ks).depth=Fo.depthL ks+1 by rw[Fo.depth]);rw[HS.out]at hN hM;generalize(Fo.mk op nm c n ks).size=S at*
 generalize(Fo.mk op nm c n ks).depth=D at*
 clear h7 h1 h2 h3 h4;go_enter Tryz.func122,Tryz.ntmps122;go_wp2
 go_loopw [4,5,6] (fun n dp i wr=>∃k a b:Nat,k<=ks.length/\ i=.int .i64 k/\ n=.int .i64 a/\ dp=.int .i64 b/\ Hid (a=Fo.sizeL (ks.take k)+1)/\ Hid (b=Fo.depthL (ks.take k))/\ a<=1000000/\ b<=1000000/\
  Below w.heap.size w wr/\ w.heap.size<wr.heap.size/\ wr.cell? ⟨w.heap.size,4,none⟩=some (.slice ao ks.length cap)) (fun _ _ i _=>ks.length-(intOf i).toNat)
 case atStart=>exact⟨0,1,0,by omega,rfl,rfl,rfl,by simp[Fo.sizeL,Hid],by simp[Fo.depthL,Hid],by omega,by omega,(Below.refl _ _).alloc (Nat.le_refl _) _,by simp,by go_simp⟩
 case round=>
  obtain⟨k,a,b,hk,rfl,rfl,rfl,ha,hb,hal,hbl,hbw,hsz,hc4⟩:=hrel;by_cases hlt:k<ks.length
  {obtain⟨bb,off,rfl,hbB,hL⟩:=H7.out (by intro h;simp[h]at hlt);obtain⟨ka,kc,g0,g1,g2,g3,g4,gk⟩:=Fo.InL.get ks off k hlt (Fo.InL.below (hbw.mono hB) hbB ks off hL);have hs1:=Fo.sizeL_snoc ks k hlt;have hd1:=Fo.depthL_snoc ks k hlt;have hs2:=Fo.sizeL_take ks (k+1);have hsk:=Fo.size_get ks k hlt;have hdk:=Fo.depth_le ks[k];generalize hx:ks[k]=x at*;have A1:=Lib.hid (show a+x.size=Fo.sizeL (ks.take (k+1))+1 by rw[hs1,ha.out];omega);(have A2:a+x.size<=1000000:=by rw[A1.out];omega);have A3:=Lib.hid (show max b x.depth=Fo.depthL (ks.take (k+1)) by rw[hd1,hb.out]);(have A4:x.depth<=1000000:=by omega);have GK:=Lib.hid gk;(have hxs:x.size<=N:=by omega);(have hxs2:x.size<=1000000:=by omega);clear gk hL H7 hs1 hd1 hx hs2 hsk hdk ha hb;have HBW:=Lib.hid hbw;by_cases hcm:b<x.depth;{(have hc1:(b:Int)<(x.depth:Int):=by omega);go_wp2_with (go_at_call 122;refine(IH.out _ _ _ B hxs hxs2 ?_ GK.out).mono ?_;(omega);rintro e w' ⟨rfl,hb'⟩;have z4:=(hb'.cell (p:=⟨w.heap.size,4,none⟩) (by show w.heap.size<_;omega)).trans hc4);go_roundw;(case rel=>exact⟨k+1,a+x.size,x.depth,by omega,by go_num,by go_num,by congr 1;omega,A1,by show _=_;rw[<-A3.out];omega,A2,A4,HBW.out.trans (hb'.mono (by omega)),by have:=hb'.size;omega,z4⟩);case measure=>simp[intOf];omega};{(have hc1:(x.depth:Int)<=(b:Int):=by omega);go_wp2_with (go_at_call 122;refine(IH.out _ _ _ B hxs hxs2 ?_ GK.out).mono ?_;(omega);rintro e w' ⟨rfl,hb'⟩;have z4:=(hb'.cell (p:=⟨w.heap.size,4,none⟩) (by show w.heap.size<_;omega)).trans hc4);go_roundw;(case rel=>exact⟨k+1,a+x.size,b,by omega,by go_num,by go_num,by congr 1;omega,A1,by show _=_;rw[<-A3.out];omega,A2,hbl,HBW.out.trans (hb'.mono (by omega)),by have:=hb'.size;omega,z4⟩);case measure=>simp[intOf];omega}}
  ·have e1:((a:Nat):Int)=(S:Nat):=by
    have:=ha.out;rw[List.take_of_length_le (by omega)]at this;have:=HS.out;omega
   have e2:((b:Nat):Int)+1=(D:Nat):=by{have:=hb.out;rw[List.take_of_length_le (by omega)]at this;have:=HD.out;omega}
   have E1:=Lib.hid e1;have E2:=Lib.hid e2;clear e1 e2 ha hb;go_wp2;go_ret2;exact⟨ret_int2 E1.out E2.out,hbw⟩
def largeB (f:Fo):Bool:=decide (200<f.size) || decide (20<f.depth)
theorem refLarge_any (f:Fo)(v:Value)(w:World)(B:Nat)(hM:f.size<=1000000)(hB:B<=w.heap.size)(hf:f.In w B v):
  Calls Tryz.prog 83 #[v] w fun e w'=>e=.returned (.bool (largeB f))/\ Below w.heap.size w w':=by
 obtain⟨ao,cap,rfl⟩:=hf.shape;have HF:=Lib.hid hf;have hdp:=Fo.depth_le f;have HR:Hid (largeB f=(decide (200<f.size) || decide (20<f.depth))):=rfl;have CS:=Lib.hid (fun W (hb:Below w.heap.size w W)=>refSize_any f.size f _ W B (Nat.le_refl _) hM (Nat.le_trans hB hb.size) (Fo.In.below (hb.mono hB) _ _ HF.out));generalize largeB f=R at*
 generalize f.size=s at*
 generalize f.depth=p at*
 clear hf;have hbw:Below w.heap.size w (w.alloc (.cells #[.int .i64 f.op,.string f.name,.int .i64 f.cmp,.int .i64 f.n,.slice ao f.kids.length cap] 47)):=(Below.refl _ _).alloc (Nat.le_refl _) _;have HBW:=Lib.hid hbw;clear hbw;by_cases h1:200<s
 {(have g1:(200:Int)<(s:Int):=by omega);have HS:=Lib.hid (show R=true by rw[HR.out,decide_eq_true h1];rfl);clear HR;go_enter Tryz.func83,Tryz.ntmps83;go_wp2_with (go_at_call 122;refine(CS.out _ HBW.out).mono ?_;rintro e w' ⟨rfl,hb'⟩;have HB':=Lib.hid (HBW.out.trans (hb'.mono (by simp)));clear hb');go_ret;exact⟨ret_bool HS.out.symm,HB'.out⟩}
 {have g1:decide ((200:Int)<(s:Int))=false:=decide_eq_false (by omega);by_cases h2:20<p;{have g2:decide ((20:Int)<(p:Int))=true:=decide_eq_true (by omega);have HS:=Lib.hid (show R=true by rw[HR.out,decide_eq_true h2];simp);clear HR h1;go_enter Tryz.func83,Tryz.ntmps83;go_wp2_with (go_at_call 122;refine(CS.out _ HBW.out).mono ?_;rintro e w' ⟨rfl,hb'⟩;have HB':=Lib.hid (HBW.out.trans (hb'.mono (by simp)));clear hb');go_ret;exact⟨ret_bool HS.out.symm,HB'.out⟩};{have g2:decide ((20:Int)<(p:Int))=false:=decide_eq_false (by omega);have HS:=Lib.hid (show R=false by rw[HR.out,decide_eq_false h1,decide_eq_false h2];rfl);clear HR h1 h2;go_enter Tryz.func83,Tryz.ntmps83;go_wp2_with (go_at_call 122;refine(CS.out _ HBW.out).mono ?_;rintro e w' ⟨rfl,hb'⟩;have HB':=Lib.hid (HBW.out.trans (hb'.mono (by simp)));clear hb');go_ret;exact⟨ret_bool HS.out.symm,HB'.out⟩}}
open Go.RowKit
theorem refIn7_nil (s:ByteArray)(w:World):Calls Tryz.prog 125 #[.slice none 0 0,.string s] w fun e w'=>e=.returned (.bool false)/\ w'=w:=by
 go_enter Tryz.func125,Tryz.ntmps125;go_wp2
 go_loopw [5] (fun i wr=>i=.int .i64 0/\ wr=w) (fun i _=>0)
 case atStart=>exact⟨rfl,rfl⟩
 case round=>(obtain⟨rfl,hww⟩:=hrel;subst hww;go_wp2;go_ret;exact⟨rfl,rfl⟩)
def bareB (nm:ByteArray)(c n:Int):Bool:=(nm.toList.isEmpty&& (c==0))&& (n==0)
theorem refFormed_any (f:Fo)(v:Value)(w:World)(B:Nat)(hf:f.In w B v)(fb:Bool)(hfb:formedB f=fb):
  Calls Tryz.prog 123 #[v] w fun e w'=>e=.returned (.bool fb)/\ Below w.heap.size w w':=by
 obtain⟨op,nm,c,n,ks⟩:=f;obtain⟨ao,cap,rfl,h1,h2,h3,h4,h5,h6,_⟩:=hf;unfold maxLen at h6;have hb1:Below w.heap.size w (w.alloc (.cells #[.int .i64 op,.string nm,.int .i64 c,.int .i64 n,.slice ao ks.length cap] 47)):=(Below.refl _ _).alloc (Nat.le_refl _) _;have HB:=Lib.hid hb1;have K0:=Blk.new w 47 #[.int .i64 op,.string nm,.int .i64 c,.int .i64 n,.slice ao ks.length cap];have x0:=K0.cell 0;have x1:=K0.cell 1;have x2:=K0.cell 2;have x3:=K0.cell 3;have x4:=K0.cell 4
 have hk:(((ks.length:Int)==0)=true/\ decide (ks.length=0)=true/\ ((ks.length:Int)==1)=false/\ decide (ks.length=1)=false/\ decide ((2:Int)<=ks.length)=false/\ decide (2<=ks.length)=false)\/
   (((ks.length:Int)==0)=false/\ decide (ks.length=0)=false/\ ((ks.length:Int)==1)=true/\ decide (ks.length=1)=true/\ decide ((2:Int)<=ks.length)=false/\ decide (2<=ks.length)=false)\/
   (((ks.length:Int)==0)=false/\ decide (ks.length=0)=false/\ ((ks.length:Int)==1)=false/\ decide (ks.length=1)=false/\ decide ((2:Int)<=ks.length)=true/\ decide (2<=ks.length)=true):=by
  rcases(by omega:ks.length=0\/ks.length=1\/2<=ks.length)with h | h | h
  {left;simp[h]}
  {right;left;simp[h]}
  {right;right;exact⟨beq_eq_false_iff_ne.2 (by omega),decide_eq_false (by omega),beq_eq_false_iff_ne.2 (by omega),decide_eq_false (by omega),decide_eq_true (by omega),decide_eq_true (by omega)⟩}
 have CN:=fun b (hb:nameB nm=b) w=>Lib.hid (refName7_any nm w h4 b hb)
 have HR:Hid (fb=if badB (.mk op nm c n ks)then false
  else if op=1\/op=2 then decide (ks.length=0)
  else if op=3 then((decide (ks.length=0)&& nameB nm)&& decide (1<=c))&& decide (c<=6)
  else if op=4 then decide (ks.length=0)&& nameB nm
  else if op=5 then decide (ks.length=1)
  else if op=6\/op=7 then decide (2<=ks.length)
  else false):=hfb.symm
 have hbad:badB (.mk op nm c n ks)=(((op !=3)&& ((c !=0) || (n !=0))) || (((op !=3)&& (op !=4))&& !nm.toList.isEmpty)):=rfl;generalize decide (ks.length=0)=k0 at*
 generalize decide (ks.length=1)=k1 at*
 generalize decide (2<=ks.length)=k2 at*
 generalize badB (.mk op nm c n ks)=bd at*
 have HBD:=Lib.hid hbad;clear hfb h1 h2 h3 hb1 K0 hbad;go_enter Tryz.func123,Tryz.ntmps123;go_upto_region 1 with(fail)
 go_cut[3] (fun s3 wx=>s3=.bool (bareB nm c n)/\ wx=(w.alloc (.cells #[.int .i64 op,.string nm,.int .i64 c,.int .i64 n,.slice ao ks.length cap] 47)))
 case first=>
  cases a3:(c==0)<;>cases a4:(n==0)<;>cases a5:nm.toList.isEmpty
  all_goals
   have a6:(nm.toList==[])=nm.toList.isEmpty:=by cases nm.toList<;>rfl
   rw[a5]at a6;go_wp2;go_meet;exact⟨by simp[bareB,a3,a4,a5],rfl⟩
 case rest=>
  obtain⟨rfl,rfl⟩:=hcut;have hbare:bareB nm c n=((nm.toList.isEmpty&& (c==0))&& (n==0)):=rfl;clear x0 x1;cases hbb:bareB nm c n with
  | true=>
   rw[hbb]at hbare
   have hb':bd=false\/op=3\/op=4:=by{left;simp only[Bool.true_eq,Bool.and_eq_true,beq_iff_eq]at hbare;obtain⟨⟨q1,q2⟩,q3⟩:=hbare;rw[HBD.out,q1,q2,q3];simp}
   have hb2:op≠3->op≠4->bd=false:=fun a b=>hb'.resolve_right (fun h=>h.elim a b)
   clear hbare hbb hb';by_cases o3:op=3
   ·subst o3
    have hbd:bd=false:=by rw[HBD.out];rfl
    rw[hbd]at HR;have HS:=Lib.hid (show fb=(((k0&& nameB nm)&& decide (1<=c))&& decide (c<=6)) by rw[HR.out];rfl);clear HR HBD hbd;cases a1:nameB nm<;>cases a2:decide (1<=c)<;>cases a3:decide (c<=6)<;>rcases hk with⟨d1,e1,d2,e2,d3,e3⟩ | ⟨d1,e1,d2,e2,d3,e3⟩ | ⟨d1,e1,d2,e2,d3,e3⟩
    all_goals
     subst e1;rw[a1,a2,a3]at HS;have C:=fun w=>CN _ a1 w
     clear a1 CN;go_wp2_with (go_at_call 171;refine(C _).out.mono ?_;rintro e w2 ⟨rfl,rfl⟩);go_ret;exact⟨ret_bool HS.out.symm,HB.out⟩
   by_cases o4:op=4
   ·subst o4
    have hbd:bd=((c !=0) || (n !=0)):=by rw[HBD.out];simp
    have HS:=Lib.hid (show fb=if bd then false else(k0&& nameB nm) by rw[HR.out];rfl);clear HR HBD;cases a1:nameB nm<;>cases a2:(c==0)<;>cases a3:(n==0)<;>rcases hk with⟨d1,e1,d2,e2,d3,e3⟩ | ⟨d1,e1,d2,e2,d3,e3⟩ | ⟨d1,e1,d2,e2,d3,e3⟩
    all_goals
     subst e1;have a4:(c !=0)= !(c==0):=rfl;have a5:(n !=0)= !(n==0):=rfl;rw[a2]at a4;rw[a3]at a5;rw[a4,a5]at hbd;rw[hbd,a1]at HS;have C:=fun w=>CN _ a1 w
     clear a1 a4 a5 hbd CN;go_wp2_with (go_at_call 171;refine(C _).out.mono ?_;rintro e w2 ⟨rfl,rfl⟩);go_ret;exact⟨ret_bool HS.out.symm,HB.out⟩
   have hbd:=hb2 o3 o4;rw[hbd]at HR;clear hb2 hbd CN;by_cases o1:op=1
   ·subst o1
    have HS:=Lib.hid (show fb=k0 by rw[HR.out];rfl);clear HR HBD;rcases hk with⟨d1,e1,d2,e2,d3,e3⟩ | ⟨d1,e1,d2,e2,d3,e3⟩ | ⟨d1,e1,d2,e2,d3,e3⟩
    all_goals
     subst e1;go_wp2;go_ret;exact⟨ret_bool HS.out.symm,HB.out⟩
   by_cases o2:op=2
   ·subst o2
    have HS:=Lib.hid (show fb=k0 by rw[HR.out];rfl);clear HR HBD;rcases hk with⟨d1,e1,d2,e2,d3,e3⟩ | ⟨d1,e1,d2,e2,d3,e3⟩ | ⟨d1,e1,d2,e2,d3,e3⟩
    all_goals
     subst e1;go_wp2;go_ret;exact⟨ret_bool HS.out.symm,HB.out⟩
   by_cases o5:op=5
   ·subst o5
    have HS:=Lib.hid (show fb=k1 by rw[HR.out];rfl);clear HR HBD;rcases hk with⟨d1,e1,d2,e2,d3,e3⟩ | ⟨d1,e1,d2,e2,d3,e3⟩ | ⟨d1,e1,d2,e2,d3,e3⟩
    all_goals
     subst e2;go_wp2;go_ret;exact⟨ret_bool HS.out.symm,HB.out⟩
   by_cases o6:op=6
   ·subst o6
    have HS:=Lib.hid (show fb=k2 by rw[HR.out];rfl);clear HR HBD;rcases hk with⟨d1,e1,d2,e2,d3,e3⟩ | ⟨d1,e1,d2,e2,d3,e3⟩ | ⟨d1,e1,d2,e2,d3,e3⟩
    all_goals
     subst e3;go_wp2;go_ret;exact⟨ret_bool HS.out.symm,HB.out⟩
   by_cases o7:op=7
   ·subst o7
    have HS:=Lib.hid (show fb=k2 by rw[HR.out];rfl);clear HR HBD;rcases hk with⟨d1,e1,d2,e2,d3,e3⟩ | ⟨d1,e1,d2,e2,d3,e3⟩ | ⟨d1,e1,d2,e2,d3,e3⟩
    all_goals
     subst e3;go_wp2;go_ret;exact⟨ret_bool HS.out.symm,HB.out⟩
   have HS:=Lib.hid (show fb=false by rw[HR.out];simp[o1,o2,o3,o4,o5,o6,o7]);have p1:(op==1)=false:=by simpa using o1
   have p2:(op==2)=false:=by simpa using o2
   have p3:(op==3)=false:=by simpa using o3
   have p4:(op==4)=false:=by simpa using o4
   have p5:(op==5)=false:=by simpa using o5
   have p6:(op==6)=false:=by simpa using o6
   have p7:(op==7)=false:=by simpa using o7
   clear HR hk HBD o1 o2 o3 o4 o5 o6 o7;go_wp2;go_ret;exact⟨ret_bool HS.out.symm,HB.out⟩
  | false=>
   rw[hbb]at hbare
   have hb2:op≠3->op≠4->bd=true:=fun a b=>by{rw[HBD.out,show(op !=3)=true by simpa using a,show(op !=4)=true by simpa using b];cases q1:nm.toList.isEmpty<;>cases q2:(c==0)<;>cases q3:(n==0)<;>simp only[q1,q2,q3,bne]at hbare⊢ <;>first | rfl | (cases hbare)}
   clear hbare hbb;by_cases o3:op=3
   ·subst o3
    have hbd:bd=false:=by rw[HBD.out];rfl
    rw[hbd]at HR;have HS:=Lib.hid (show fb=(((k0&& nameB nm)&& decide (1<=c))&& decide (c<=6)) by rw[HR.out];rfl);clear HR HBD hbd;cases a1:nameB nm<;>cases a2:decide (1<=c)<;>cases a3:decide (c<=6)<;>rcases hk with⟨d1,e1,d2,e2,d3,e3⟩ | ⟨d1,e1,d2,e2,d3,e3⟩ | ⟨d1,e1,d2,e2,d3,e3⟩
    all_goals
     subst e1;rw[a1,a2,a3]at HS;have C:=fun w=>CN _ a1 w
     clear a1 CN;go_wp2_with (go_at_call 171;refine(C _).out.mono ?_;rintro e w2 ⟨rfl,rfl⟩);go_ret;exact⟨ret_bool HS.out.symm,HB.out⟩
   by_cases o4:op=4
   ·subst o4
    have hbd:bd=((c !=0) || (n !=0)):=by rw[HBD.out];simp
    have HS:=Lib.hid (show fb=if bd then false else(k0&& nameB nm) by rw[HR.out];rfl);clear HR HBD;cases a1:nameB nm<;>cases a2:(c==0)<;>cases a3:(n==0)<;>rcases hk with⟨d1,e1,d2,e2,d3,e3⟩ | ⟨d1,e1,d2,e2,d3,e3⟩ | ⟨d1,e1,d2,e2,d3,e3⟩
    all_goals
     subst e1;have a4:(c !=0)= !(c==0):=rfl;have a5:(n !=0)= !(n==0):=rfl;rw[a2]at a4;rw[a3]at a5;rw[a4,a5]at hbd;rw[hbd,a1]at HS;have C:=fun w=>CN _ a1 w
     clear a1 a4 a5 hbd CN;go_wp2_with (go_at_call 171;refine(C _).out.mono ?_;rintro e w2 ⟨rfl,rfl⟩);go_ret;exact⟨ret_bool HS.out.symm,HB.out⟩
   have hbd:=hb2 o3 o4;rw[hbd]at HR;clear hb2 hbd CN;by_cases o1:op=1
   {subst o1;have HS:=Lib.hid (show fb=false by rw[HR.out];rfl);clear HR HBD hk;go_wp2;go_ret;exact⟨ret_bool HS.out.symm,HB.out⟩}
   by_cases o2:op=2
   {subst o2;have HS:=Lib.hid (show fb=false by rw[HR.out];rfl);clear HR HBD hk;go_wp2;go_ret;exact⟨ret_bool HS.out.symm,HB.out⟩}
   by_cases o5:op=5
   {subst o5;have HS:=Lib.hid (show fb=false by rw[HR.out];rfl);clear HR HBD hk;go_wp2;go_ret;exact⟨ret_bool HS.out.symm,HB.out⟩}
   by_cases o6:op=6
   {subst o6;have HS:=Lib.hid (show fb=false by rw[HR.out];rfl);clear HR HBD hk;go_wp2;go_ret;exact⟨ret_bool HS.out.symm,HB.out⟩}
   by_cases o7:op=7
   {subst o7;have HS:=Lib.hid (show fb=false by rw[HR.out];rfl);clear HR HBD hk;go_wp2;go_ret;exact⟨ret_bool HS.out.symm,HB.out⟩}
   have HS:=Lib.hid (show fb=false by rw[HR.out];rfl);have p1:(op==1)=false:=by simpa using o1
   have p2:(op==2)=false:=by simpa using o2
   have p3:(op==3)=false:=by simpa using o3
   have p4:(op==4)=false:=by simpa using o4
   have p5:(op==5)=false:=by simpa using o5
   have p6:(op==6)=false:=by simpa using o6
   have p7:(op==7)=false:=by simpa using o7
   clear HR hk HBD o1 o2 o3 o4 o5 o6 o7;go_wp2;go_ret;exact⟨ret_bool HS.out.symm,HB.out⟩
theorem refValid_any (d:List Fa)(v:Value)(w:World)(B:Nat)(hB:B<=w.heap.size)(hd:DomIn w B d v):
  Calls Tryz.prog 51 #[v] w fun e w'=>e=.returned (.bool (validD d))/\ Below w.heap.size w w':=by
 have hd0:=hd;obtain⟨u,rfl,hd⟩:=hd;obtain⟨ad,cd,rfl,d1,d2,_⟩:=SlIn.shape hd;unfold maxLen at d2;have HD:=Lib.hid hd;have hb1:Below w.heap.size w (w.alloc (.cells #[.slice ad d.length cd] 25)):=(Below.refl _ _).alloc (Nat.le_refl _) _;have x0:(w.alloc (.cells #[.slice ad d.length cd] 25)).cell? ⟨w.heap.size,0,none⟩=some (.slice ad d.length cd):=(Blk.new w 25 _).cell 0;have HR:Hid (validD d=(validR d d.length&& decide (d.length<=60))):=validR_eq d;have HF:Hid (∀k (h:k<d.length),okR d d[k] k=false->validD d=false):=fun k h e=>by rw[validR_eq,validR_false h e];rfl
 have HIX0:=Lib.hid (fun s W (hb:Below w.heap.size w W)=>refIndex6_any d s _ W B (Nat.le_trans hB hb.size) (hd0.below (hb.mono hB)));have HB:=Lib.hid hb1;generalize validD d=R at*
 clear hd hd0 hb1;go_enter Tryz.func51,Tryz.ntmps51;go_wp2
 go_loopw [3] (fun i wr=>∃k:Nat,k<=d.length/\ i=.int .i64 k/\ Hid (validR d k=true)/\ Hid (Below w.heap.size w wr)/\ w.heap.size<wr.heap.size/\ wr.cell? ⟨w.heap.size,0,none⟩=some (.slice ad d.length cd)) (fun i _=>d.length-(intOf i).toNat)
 case atStart=>exact⟨0,by omega,rfl,rfl,HB,by simp,x0⟩
 case round=>
  obtain⟨k,hk,rfl,hin,hbw,hsz,hc0⟩:=hrel;clear x0;by_cases hlt:k<d.length
  ·obtain⟨b,off,rfl,hbB,f0,f1,f2,f3,hz,wk,wl,wh⟩:=SlIn.at (HD.out.below FaR.kept (hbw.out.mono hB)) k hlt
   have hno:=HF.out k hlt;have hyes:okR d d[k] k=true->validR d (k+1)=true:=fun h=>by rw[validR_succ d k hlt,hin.out,h];rfl
   have HIX:=Lib.hid (HIX0.out d[k].name);generalize d[k]=f at*
   have hdef:okR d f k=(nameB f.name&& (idxD d f.name==(k:Int))&& decide (0<=f.lo)&& decide (f.lo<=f.hi)&& decide (f.hi<=1000000)&& (decide (1<=f.kind)&& decide (f.kind<=3))&& !((f.kind==1)&& ((f.lo !=0) || (f.hi !=1)))):=rfl;have hbf:Below w.heap.size w (wr.alloc (.cells #[.string f.name,.int .i64 f.kind,.int .i64 f.lo,.int .i64 f.hi] 86)):=hbw.out.alloc (by omega) _;have K:=Blk.new wr 86 #[.string f.name,.int .i64 f.kind,.int .i64 f.lo,.int .i64 f.hi];have y0:=K.cell 0;have y1:=K.cell 1;have y2:=K.cell 2;have y3:=K.cell 3;have yc:=(((Below.refl wr.heap.size wr).alloc (Nat.le_refl _) (.cells #[.string f.name,.int .i64 f.kind,.int .i64 f.lo,.int .i64 f.hi] 86)).cell (p:=⟨w.heap.size,0,none⟩) hsz).trans hc0;have HBF:=Lib.hid hbf;have HDEF:=Lib.hid hdef;have HNO:=Lib.hid hno;have HYES:=Lib.hid hyes;have k0:(0:Int)<=(k:Int):=Int.natCast_nonneg _;have k1:(k:Int)<(d.length:Int):=by omega
   generalize okR d f k=ok at*
   clear hno hyes hdef hbf K hin;cases c1:nameB f.name with
   | false=>{have HS:=Lib.hid (HNO.out (by rw[HDEF.out,c1];rfl));go_wp2_with (go_at_call 52;refine(refName_any f.name _ hz _ c1).mono ?_;rintro e w2 ⟨rfl,rfl⟩);go_ret;exact⟨ret_bool HS.out.symm,HBF.out⟩}
   | true=>
    generalize hix:idxD d f.name=ix at*
    by_cases c2:ix=(k:Int)
    ·subst c2
     by_cases c3:f.lo<0
     ·have g3:decide (f.lo<0)=true:=decide_eq_true c3
      have HS:=Lib.hid (HNO.out (by rw[HDEF.out,decide_eq_false (show ¬0<=f.lo by omega)];simp))
      go_wp2_with (first
       | (go_at_call 52;refine(refName_any f.name _ hz _ c1).mono ?_;rintro e w2 ⟨rfl,rfl⟩)
       | (go_at_call 80;refine(HIX.out _ HBF.out).mono ?_;rintro e w3 ⟨rfl,hb3⟩;have z0:=(hb3.cell (p:=⟨wr.heap.size,0,none⟩) (by simp)).trans y0;have z1:=(hb3.cell (p:=⟨wr.heap.size,1,none⟩) (by simp)).trans y1;have z2:=(hb3.cell (p:=⟨wr.heap.size,2,none⟩) (by simp)).trans y2;have z3:=(hb3.cell (p:=⟨wr.heap.size,3,none⟩) (by simp)).trans y3;have zc:=(hb3.cell (p:=⟨w.heap.size,0,none⟩) (by simp;omega)).trans yc;have HB3:=Lib.hid (HBF.out.trans (hb3.mono (by simp;omega)));have hz3:=hb3.size;simp only[World.size_alloc]at hz3;clear hb3 y0 y1 y2 y3 yc))
      go_ret;exact⟨ret_bool HS.out.symm,HB3.out⟩
     have g3:decide (f.lo<0)=false:=decide_eq_false c3;by_cases c4:f.hi<f.lo
     ·have g4:decide (f.hi<f.lo)=true:=decide_eq_true c4
      have HS:=Lib.hid (HNO.out (by rw[HDEF.out,decide_eq_false (show ¬f.lo<=f.hi by omega)];simp));clear c3
      go_wp2_with (first
       | (go_at_call 52;refine(refName_any f.name _ hz _ c1).mono ?_;rintro e w2 ⟨rfl,rfl⟩)
       | (go_at_call 80;refine(HIX.out _ HBF.out).mono ?_;rintro e w3 ⟨rfl,hb3⟩;have z0:=(hb3.cell (p:=⟨wr.heap.size,0,none⟩) (by simp)).trans y0;have z1:=(hb3.cell (p:=⟨wr.heap.size,1,none⟩) (by simp)).trans y1;have z2:=(hb3.cell (p:=⟨wr.heap.size,2,none⟩) (by simp)).trans y2;have z3:=(hb3.cell (p:=⟨wr.heap.size,3,none⟩) (by simp)).trans y3;have zc:=(hb3.cell (p:=⟨w.heap.size,0,none⟩) (by simp;omega)).trans yc;have HB3:=Lib.hid (HBF.out.trans (hb3.mono (by simp;omega)));have hz3:=hb3.size;simp only[World.size_alloc]at hz3;clear hb3 y0 y1 y2 y3 yc))
      go_ret;exact⟨ret_bool HS.out.symm,HB3.out⟩
     have g4:decide (f.hi<f.lo)=false:=decide_eq_false c4;by_cases c5:1000000<f.hi
     ·have g5:decide (1000000<f.hi)=true:=decide_eq_true c5
      have HS:=Lib.hid (HNO.out (by rw[HDEF.out,decide_eq_false (show ¬f.hi<=1000000 by omega)];simp));clear c3 c4
      go_wp2_with (first
       | (go_at_call 52;refine(refName_any f.name _ hz _ c1).mono ?_;rintro e w2 ⟨rfl,rfl⟩)
       | (go_at_call 80;refine(HIX.out _ HBF.out).mono ?_;rintro e w3 ⟨rfl,hb3⟩;have z0:=(hb3.cell (p:=⟨wr.heap.size,0,none⟩) (by simp)).trans y0;have z1:=(hb3.cell (p:=⟨wr.heap.size,1,none⟩) (by simp)).trans y1;have z2:=(hb3.cell (p:=⟨wr.heap.size,2,none⟩) (by simp)).trans y2;have z3:=(hb3.cell (p:=⟨wr.heap.size,3,none⟩) (by simp)).trans y3;have zc:=(hb3.cell (p:=⟨w.heap.size,0,none⟩) (by simp;omega)).trans yc;have HB3:=Lib.hid (HBF.out.trans (hb3.mono (by simp;omega)));have hz3:=hb3.size;simp only[World.size_alloc]at hz3;clear hb3 y0 y1 y2 y3 yc))
      go_ret;exact⟨ret_bool HS.out.symm,HB3.out⟩
     have g5:decide (1000000<f.hi)=false:=decide_eq_false c5;by_cases c6:f.kind<1
     ·have g6:decide (f.kind<1)=true:=decide_eq_true c6
      have HS:=Lib.hid (HNO.out (by rw[HDEF.out,decide_eq_false (show ¬1<=f.kind by omega)];simp));clear c3 c4 c5
      go_wp2_with (first
       | (go_at_call 52;refine(refName_any f.name _ hz _ c1).mono ?_;rintro e w2 ⟨rfl,rfl⟩)
       | (go_at_call 80;refine(HIX.out _ HBF.out).mono ?_;rintro e w3 ⟨rfl,hb3⟩;have z0:=(hb3.cell (p:=⟨wr.heap.size,0,none⟩) (by simp)).trans y0;have z1:=(hb3.cell (p:=⟨wr.heap.size,1,none⟩) (by simp)).trans y1;have z2:=(hb3.cell (p:=⟨wr.heap.size,2,none⟩) (by simp)).trans y2;have z3:=(hb3.cell (p:=⟨wr.heap.size,3,none⟩) (by simp)).trans y3;have zc:=(hb3.cell (p:=⟨w.heap.size,0,none⟩) (by simp;omega)).trans yc;have HB3:=Lib.hid (HBF.out.trans (hb3.mono (by simp;omega)));have hz3:=hb3.size;simp only[World.size_alloc]at hz3;clear hb3 y0 y1 y2 y3 yc))
      go_ret;exact⟨ret_bool HS.out.symm,HB3.out⟩
     have g6:decide (f.kind<1)=false:=decide_eq_false c6;by_cases c7:3<f.kind
     ·have g7:decide (3<f.kind)=true:=decide_eq_true c7
      have HS:=Lib.hid (HNO.out (by rw[HDEF.out,decide_eq_false (show ¬f.kind<=3 by omega)];simp));clear c3 c4 c5 c6
      go_wp2_with (first
       | (go_at_call 52;refine(refName_any f.name _ hz _ c1).mono ?_;rintro e w2 ⟨rfl,rfl⟩)
       | (go_at_call 80;refine(HIX.out _ HBF.out).mono ?_;rintro e w3 ⟨rfl,hb3⟩;have z0:=(hb3.cell (p:=⟨wr.heap.size,0,none⟩) (by simp)).trans y0;have z1:=(hb3.cell (p:=⟨wr.heap.size,1,none⟩) (by simp)).trans y1;have z2:=(hb3.cell (p:=⟨wr.heap.size,2,none⟩) (by simp)).trans y2;have z3:=(hb3.cell (p:=⟨wr.heap.size,3,none⟩) (by simp)).trans y3;have zc:=(hb3.cell (p:=⟨w.heap.size,0,none⟩) (by simp;omega)).trans yc;have HB3:=Lib.hid (HBF.out.trans (hb3.mono (by simp;omega)));have hz3:=hb3.size;simp only[World.size_alloc]at hz3;clear hb3 y0 y1 y2 y3 yc))
      go_ret;exact⟨ret_bool HS.out.symm,HB3.out⟩
     have g7:decide (3<f.kind)=false:=decide_eq_false c7
     have hpre:ok= !((f.kind==1)&& ((f.lo !=0) || (f.hi !=1))):=by{rw[HDEF.out,c1,decide_eq_true (show 0<=f.lo by omega),decide_eq_true (show f.lo<=f.hi by omega),decide_eq_true (show f.hi<=1000000 by omega),decide_eq_true (show 1<=f.kind by omega),decide_eq_true (show f.kind<=3 by omega)];simp}
     clear c3 c4 c5 c6 c7 HDEF;cases a1:(f.kind==1)<;>cases a2:(f.lo !=0)<;>cases a3:(f.hi !=1)
     all_goals
      rw[a1,a2,a3]at hpre;have HPRE:=Lib.hid hpre;clear hpre
      go_wp2_with (first
       | (go_at_call 52;refine(refName_any f.name _ hz _ c1).mono ?_;rintro e w2 ⟨rfl,rfl⟩)
       | (go_at_call 80;refine(HIX.out _ HBF.out).mono ?_;rintro e w3 ⟨rfl,hb3⟩;have z0:=(hb3.cell (p:=⟨wr.heap.size,0,none⟩) (by simp)).trans y0;have z1:=(hb3.cell (p:=⟨wr.heap.size,1,none⟩) (by simp)).trans y1;have z2:=(hb3.cell (p:=⟨wr.heap.size,2,none⟩) (by simp)).trans y2;have z3:=(hb3.cell (p:=⟨wr.heap.size,3,none⟩) (by simp)).trans y3;have zc:=(hb3.cell (p:=⟨w.heap.size,0,none⟩) (by simp;omega)).trans yc;have HB3:=Lib.hid (HBF.out.trans (hb3.mono (by simp;omega)));have hz3:=hb3.size;simp only[World.size_alloc]at hz3;clear hb3 y0 y1 y2 y3 yc))
      first
      | (go_ret;exact⟨ret_bool (HNO.out HPRE.out).symm,HB3.out⟩)
      | (go_roundw;(case rel=>exact⟨k+1,by omega,by go_num,HYES.out HPRE.out,HB3,by omega,zc⟩);(case measure=>simp[intOf];omega))
    ·have g2:(ix !=(k:Int))=true:=by rw[bne_iff_ne];exact c2
     have HS:=Lib.hid (HNO.out (by rw[HDEF.out,show(ix==(k:Int))=false from beq_eq_false_iff_ne.2 c2];simp));clear c2
     go_wp2_with (first
      | (go_at_call 52;refine(refName_any f.name _ hz _ c1).mono ?_;rintro e w2 ⟨rfl,rfl⟩)
      | (go_at_call 80;refine(HIX.out _ HBF.out).mono ?_;rintro e w3 ⟨rfl,hb3⟩;have z0:=(hb3.cell (p:=⟨wr.heap.size,0,none⟩) (by simp)).trans y0;have z1:=(hb3.cell (p:=⟨wr.heap.size,1,none⟩) (by simp)).trans y1;have z2:=(hb3.cell (p:=⟨wr.heap.size,2,none⟩) (by simp)).trans y2;have z3:=(hb3.cell (p:=⟨wr.heap.size,3,none⟩) (by simp)).trans y3;have zc:=(hb3.cell (p:=⟨w.heap.size,0,none⟩) (by simp;omega)).trans yc;have HB3:=Lib.hid (HBF.out.trans (hb3.mono (by simp;omega)));have hz3:=hb3.size;simp only[World.size_alloc]at hz3;clear hb3 y0 y1 y2 y3 yc))
     go_ret;exact⟨ret_bool HS.out.symm,HB3.out⟩
  {have HS:=Lib.hid (show R=decide (d.length<=60) by rw[HR.out,show d.length=k by omega,hin.out,Bool.true_and]);clear hin;by_cases h60:d.length<=60;{(have h60':(d.length:Int)<=60:=by omega);rw[decide_eq_true h60]at HS;go_wp2;go_ret;exact⟨ret_bool HS.out.symm,hbw.out⟩};{have h60':decide ((d.length:Int)<=60)=false:=decide_eq_false (by omega);rw[decide_eq_false h60]at HS;clear h60;go_wp2;go_ret;exact⟨ret_bool HS.out.symm,hbw.out⟩}}
open Go.RowKit
def N6 (W:World)(H:Nat)(v0 v1 v2 v3 v4 u:Value):Prop:=
 W.cell? ⟨H,0,none⟩=some v0/\ W.cell? ⟨H,1,none⟩=some v1/\ W.cell? ⟨H,2,none⟩=some v2/\ W.cell? ⟨H,3,none⟩=some v3/\ W.cell? ⟨H,4,none⟩=some v4/\ W.cell? ⟨H+1,0,none⟩=some u
theorem n6_up {W W':World}{B H:Nat}{v0 v1 v2 v3 v4 u:Value}(h:N6 W H v0 v1 v2 v3 v4 u)(hb:Below B W W')(hB:H+1<B):N6 W' H v0 v1 v2 v3 v4 u:=by
 obtain⟨h0,h1,h2,h3,h4,h5⟩:=h;exact⟨(hb.cell (p:=⟨H,0,none⟩) (by show H<B;omega)).trans h0,(hb.cell (p:=⟨H,1,none⟩) (by show H<B;omega)).trans h1,(hb.cell (p:=⟨H,2,none⟩) (by show H<B;omega)).trans h2,(hb.cell (p:=⟨H,3,none⟩) (by show H<B;omega)).trans h3,(hb.cell (p:=⟨H,4,none⟩) (by show H<B;omega)).trans h4,(hb.cell (p:=⟨H+1,0,none⟩) hB).trans h5⟩
theorem refNode_any (d:List Fa)(N:Nat):∀(f:Fo) (v u:Value) (w:World) (B:Nat),f.size<=N->B<=w.heap.size->f.In w B v->DomIn w B d u->
  Calls Tryz.prog 84 #[v,u,.slice none 0 0,.bool false] w fun e w'=>e=.returned (.int .i64 (firstErr d (fun _=>false) (nodesL f)))/\ Below w.heap.size w w':=by
 induction N with
 | zero=>intro f _ _ _ _ h;have:=f.size_pos;omega
 | succ N ih=>
 intro f v u w B hN hB hf hd;have IH:=Lib.hid ih;clear ih;have HF0:=Lib.hid hf;have HD0:=Lib.hid hd;obtain⟨op,nm,c,n,ks⟩:=f;obtain⟨du,rfl,hdu⟩:=hd;obtain⟨ad,cd,rfl,d1,d2,_⟩:=SlIn.shape hdu;obtain⟨ao,cap,rfl,_,_,_,_,h5,h6,h7⟩:=hf;unfold maxLen at h6;have H7:=Lib.hid h7;have hb2:Below w.heap.size w ((w.alloc (.cells #[.int .i64 op,.string nm,.int .i64 c,.int .i64 n,.slice ao ks.length cap] 47)).alloc (.cells #[.slice ad d.length cd] 25)):=((Below.refl _ _).alloc (Nat.le_refl _) _).alloc (by simp) _;have K0:=(Blk.new w 47 #[.int .i64 op,.string nm,.int .i64 c,.int .i64 n,.slice ao ks.length cap]).below ((Below.refl _ _).alloc (Nat.le_refl _) (.cells #[.slice ad d.length cd] 25));have K1:Blk ((w.alloc (.cells #[.int .i64 op,.string nm,.int .i64 c,.int .i64 n,.slice ao ks.length cap] 47)).alloc (.cells #[.slice ad d.length cd] 25)) (w.heap.size+1) 25 #[.slice ad d.length cd]:=by have h:=Blk.new (w.alloc (.cells #[.int .i64 op,.string nm,.int .i64 c,.int .i64 n,.slice ao ks.length cap] 47)) 25 #[.slice ad d.length cd];simp only[World.size_alloc]at h;exact h
 have HX:Hid (N6 ((w.alloc (.cells #[.int .i64 op,.string nm,.int .i64 c,.int .i64 n,.slice ao ks.length cap] 47)).alloc (.cells #[.slice ad d.length cd] 25)) w.heap.size (.int .i64 op) (.string nm) (.int .i64 c) (.int .i64 n) (.slice ao ks.length cap) (.slice ad d.length cd)):=⟨K0.cell 0,K0.cell 1,K0.cell 2,K0.cell 3,K0.cell 4,K1.cell 0⟩;have HB2:=Lib.hid hb2;have HR:Hid (firstErr d (fun _=>false) (nodesL (.mk op nm c n ks))=if nodeErr d (fun _=>false) (.mk op nm c n ks)=0 then kidsErr d (fun _=>false) ks else nodeErr d (fun _=>false) (.mk op nm c n ks)):=nodeR_eq d _ op nm c n ks;have HE:Hid (nodeErr d (fun _=>false) (.mk op nm c n ks)=if formedB (.mk op nm c n ks)=false then 1 else if op=3/\ (n<0\/1000000<n)then 10 else if(op=3/\ idxD d nm<0)\/(op=4/\ false=false)then 7 else 0):=rfl;have HFM0:=fun fb (hfb:formedB (.mk op nm c n ks)=fb)=>Lib.hid (fun W (hb:Below w.heap.size w W)=>refFormed_any (.mk op nm c n ks) _ W B (Fo.In.below (hb.mono hB) _ _ HF0.out) fb hfb)
 have HIX:=Lib.hid (fun W (hb:Below w.heap.size w W)=>refIndex7_any d nm _ W B (Nat.le_trans hB hb.size) (HD0.out.below (hb.mono hB)));have hsl:Fo.sizeL ks<=N:=by rw[Fo.size]at hN;omega
 obtain⟨x0,x1,x2,x3,x4,xd⟩:=HX.out;generalize firstErr d (fun _=>false) (nodesL (.mk op nm c n ks))=R at*
 generalize nodeErr d (fun _=>false) (.mk op nm c n ks)=E at*
 generalize idxD d nm=ix at*
 clear hN hdu h7 hb2 K0 K1 HF0;cases hfm:formedB (.mk op nm c n ks)with
 | false=>{have HFM:=HFM0 false hfm;have HS:=Lib.hid (show R=1 by rw[HR.out,HE.out,if_pos hfm];rfl);clear hfm HFM0 HR HE;go_enter Tryz.func84,Tryz.ntmps84;go_wp2_with (go_at_call 123;refine(HFM.out _ HB2.out).mono ?_;rintro e w3 ⟨rfl,hb3⟩;obtain⟨y0,y1,y2,y3,y4,yd⟩:=n6_up HX.out hb3 (by simp);have HX3:=Lib.hid (n6_up HX.out hb3 (by simp));have HB3:=Lib.hid (HB2.out.trans (hb3.mono (by simp;omega)));have hz3:=hb3.size;simp only[World.size_alloc]at hz3;clear hb3 x0 x1 x2 x3 x4 xd);go_ret;exact⟨ret_int HS.out.symm,HB3.out⟩}
 | true=>
  have HFM:=HFM0 true hfm
  have HE2:Hid (E=if op=3/\ (n<0\/1000000<n)then 10 else if(op=3/\ ix<0)\/(op=4/\ false=false)then 7 else 0):=by{show _=_;rw[HE.out,if_neg (by rw[hfm];decide)]}
  clear hfm HFM0 HE;by_cases o3:op=3
  ·subst o3
   by_cases n1:n<0
   {have g1:decide (n<0)=true:=decide_eq_true n1;have HS:=Lib.hid (show R=10 by have hE:E=10:=(by rw[HE2.out,if_pos ⟨rfl,.inl n1⟩]);rw[HR.out,hE,if_neg (by decide)]);clear HR HE2 n1;go_enter Tryz.func84,Tryz.ntmps84;go_wp2_with (go_at_call 123;refine(HFM.out _ HB2.out).mono ?_;rintro e w3 ⟨rfl,hb3⟩;obtain⟨y0,y1,y2,y3,y4,yd⟩:=n6_up HX.out hb3 (by simp);have HX3:=Lib.hid (n6_up HX.out hb3 (by simp));have HB3:=Lib.hid (HB2.out.trans (hb3.mono (by simp;omega)));have hz3:=hb3.size;simp only[World.size_alloc]at hz3;clear hb3 x0 x1 x2 x3 x4 xd);go_ret;exact⟨ret_int HS.out.symm,HB3.out⟩}
   have g1:decide (n<0)=false:=decide_eq_false n1;by_cases n2:1000000<n
   {have g2:decide (1000000<n)=true:=decide_eq_true n2;have HS:=Lib.hid (show R=10 by have hE:E=10:=(by rw[HE2.out,if_pos ⟨rfl,.inr n2⟩]);rw[HR.out,hE,if_neg (by decide)]);clear HR HE2 n1 n2;go_enter Tryz.func84,Tryz.ntmps84;go_wp2_with (go_at_call 123;refine(HFM.out _ HB2.out).mono ?_;rintro e w3 ⟨rfl,hb3⟩;obtain⟨y0,y1,y2,y3,y4,yd⟩:=n6_up HX.out hb3 (by simp);have HX3:=Lib.hid (n6_up HX.out hb3 (by simp));have HB3:=Lib.hid (HB2.out.trans (hb3.mono (by simp;omega)));have hz3:=hb3.size;simp only[World.size_alloc]at hz3;clear hb3 x0 x1 x2 x3 x4 xd);go_ret;exact⟨ret_int HS.out.symm,HB3.out⟩}
   have g2:decide (1000000<n)=false:=decide_eq_false n2;by_cases i1:ix<0
   ·have g3:decide (ix<0)=true:=decide_eq_true i1
    have HS:=Lib.hid (show R=7 by have hE:E=7:=(by rw[HE2.out,if_neg (fun h=>h.2.elim n1 n2),if_pos (.inl ⟨rfl,i1⟩)]);rw[HR.out,hE,if_neg (by decide)]);clear HR HE2 n1 n2 i1;go_enter Tryz.func84,Tryz.ntmps84
    go_wp2_with (first
     | (go_at_call 123;refine(HFM.out _ HB2.out).mono ?_;rintro e w3 ⟨rfl,hb3⟩;obtain⟨y0,y1,y2,y3,y4,yd⟩:=n6_up HX.out hb3 (by simp);have HX3:=Lib.hid (n6_up HX.out hb3 (by simp));have HB3:=Lib.hid (HB2.out.trans (hb3.mono (by simp;omega)));have hz3:=hb3.size;simp only[World.size_alloc]at hz3;clear hb3 x0 x1 x2 x3 x4 xd)
     | (go_at_call 124;refine(HIX.out _ HB3.out).mono ?_;rintro e w4 ⟨rfl,hb4⟩;obtain⟨z0,z1,z2,z3,z4,zd⟩:=n6_up HX3.out hb4 (by omega);have HX4:=Lib.hid (n6_up HX3.out hb4 (by omega));have HB4:=Lib.hid (HB3.out.trans (hb4.mono (by omega)));have hz4:=hb4.size;clear hb4 y0 y1 y2 y3 y4 yd))
    go_ret;exact⟨ret_int HS.out.symm,HB4.out⟩
   have g3:decide (ix<0)=false:=decide_eq_false i1
   have HS:=Lib.hid (show R=kidsErr d (fun _=>false) (ks.drop 0) by
    have hE:E=0:=(by rw[HE2.out,if_neg (fun h=>h.2.elim n1 n2),if_neg (fun h=>h.elim (fun h=>i1 h.2) (fun h=>by cases h.1))])
    rw[HR.out,hE,if_pos rfl];rfl)
   clear HR HE2 n1 n2 i1;go_enter Tryz.func84,Tryz.ntmps84
   go_wp2_with (first
    | (go_at_call 123;refine(HFM.out _ HB2.out).mono ?_;rintro e w3 ⟨rfl,hb3⟩;obtain⟨y0,y1,y2,y3,y4,yd⟩:=n6_up HX.out hb3 (by simp);have HX3:=Lib.hid (n6_up HX.out hb3 (by simp));have HB3:=Lib.hid (HB2.out.trans (hb3.mono (by simp;omega)));have hz3:=hb3.size;simp only[World.size_alloc]at hz3;clear hb3 x0 x1 x2 x3 x4 xd)
    | (go_at_call 124;refine(HIX.out _ HB3.out).mono ?_;rintro e w4 ⟨rfl,hb4⟩;obtain⟨z0,z1,z2,z3,z4,zd⟩:=n6_up HX3.out hb4 (by omega);have HX4:=Lib.hid (n6_up HX3.out hb4 (by omega));have HB4:=Lib.hid (HB3.out.trans (hb4.mono (by omega)));have hz4:=hb4.size;clear hb4 y0 y1 y2 y3 y4 yd))
   clear z0 z1 z2 z3 z4 zd;have HX9:=HX4;have HB9:=HB4;have hz9:w.heap.size+1<w4.heap.size:=by omega
   go_loopw [9] (fun iv wr=>∃k:Nat,k<=ks.length/\ iv=.int .i64 k/\ Hid (R=kidsErr d (fun _=>false) (ks.drop k))/\ Hid (Below w.heap.size w wr)/\ w.heap.size+1<wr.heap.size/\ Hid (N6 wr w.heap.size (.int .i64 3) (.string nm) (.int .i64 c) (.int .i64 n) (.slice ao ks.length cap) (.slice ad d.length cd))) (fun iv _=>ks.length-(intOf iv).toNat)
   case atStart=>exact⟨0,Nat.zero_le _,rfl,HS,HB9,hz9,HX9⟩
   case round=>
    obtain⟨k,hk,rfl,hin,hbw,hsz,hxx⟩:=hrel;by_cases hlt:k<ks.length
    {obtain⟨b,off,rfl,hbB,hL⟩:=H7.out (by intro h;simp[h]at hlt);obtain⟨ka,kc,q0,q1,q2,q3,q4,gk⟩:=Fo.InL.get ks off k hlt (Fo.InL.below (hbw.out.mono hB) hbB ks off hL);have hsk:=Fo.size_get ks k hlt;have ho:=kidsErr_drop d (fun _=>false) ks k hlt;have hin2:=hin.out;rw[ho]at hin2;have CK:=Lib.hid (IH.out ks[k] _ _ wr.drew B (by omega) (Nat.le_trans hB hbw.out.size) (Fo.In.below (World.drewN_below _ _ 1) _ _ gk) (HD0.out.below ((hbw.out.trans (World.drewN_below _ _ 1)).mono hB)));have HIN:=Lib.hid hin2;have HKB:=hbw;have HXX:=hxx;obtain⟨y0,y1,y2,y3,y4,yd⟩:=hxx.out;have k0:(0:Int)<=(k:Int):=Int.natCast_nonneg _;(have k1:(k:Int)<(ks.length:Int):=by omega);generalize ks[k]=x at*;generalize firstErr d (fun _=>false) (nodesL x)=ex at*;clear hin hin2 ho hL gk hsk hbw hxx;by_cases hex:ex=0;{subst hex;have HS9:=Lib.hid (show R=kidsErr d (fun _=>false) (ks.drop (k+1)) by rw[HIN.out,if_pos rfl]);clear HIN;go_wp2;refine wp_region_still_tail 8 (by kernel_rfl) (by kernel_rfl) ?_;simp only[List.take_succ_cons,List.take_zero,List.drop_succ_cons,List.drop_zero];(iterate 8 still_step);refine wpStill_nil ?_;change wpList _ _ _ _ _ wr.drew;go_wp2_with (go_at_call 84;refine CK.out.mono ?_;rintro e w8 ⟨rfl,hb8⟩;have HB8:=Lib.hid (HKB.out.trans (((World.drewN_below wr.heap.size wr 1).trans hb8).mono (by omega)));have HX8:=Lib.hid (n6_up HXX.out ((World.drewN_below wr.heap.size wr 1).trans hb8) hsz);have hz8:=hb8.size;obtain⟨s0,s1,s2,s3,s4,sd⟩:=HX8.out;clear hb8);go_roundw;(case rel=>exact⟨k+1,by omega,by go_num,HS9,HB8,Nat.lt_of_lt_of_le hsz hz8,HX8⟩);case measure=>simp[intOf];omega};{have HS9:=Lib.hid (show R=ex by rw[HIN.out,if_neg hex]);(have ge:(ex !=0)=true:=by simpa using hex);clear HIN hex;go_wp2;refine wp_region_still_tail 8 (by kernel_rfl) (by kernel_rfl) ?_;simp only[List.take_succ_cons,List.take_zero,List.drop_succ_cons,List.drop_zero];(iterate 8 still_step);refine wpStill_nil ?_;change wpList _ _ _ _ _ wr.drew;go_wp2_with (go_at_call 84;refine CK.out.mono ?_;rintro e w8 ⟨rfl,hb8⟩;have HB8:=Lib.hid (HKB.out.trans (((World.drewN_below wr.heap.size wr 1).trans hb8).mono (by omega)));clear hb8);go_ret;exact⟨ret_int HS9.out.symm,HB8.out⟩}}
    ·have HS9:=Lib.hid (show R=0 by
      have h0:=hin.out
      rw[List.drop_of_length_le (by omega)]at h0
      exact h0)
     obtain⟨y0,y1,y2,y3,y4,yd⟩:=hxx.out;clear hin;go_wp2;go_ret;exact⟨ret_int HS9.out.symm,hbw.out⟩
  by_cases o4:op=4
  ·subst o4
   have HS:=Lib.hid (show R=7 by have hE:E=7:=(by rw[HE2.out,if_neg (fun h=>by cases h.1),if_pos (.inr ⟨rfl,rfl⟩)]);rw[HR.out,hE,if_neg (by decide)]);clear HR HE2;go_enter Tryz.func84,Tryz.ntmps84
   go_wp2_with (first
    | (go_at_call 123;refine(HFM.out _ HB2.out).mono ?_;rintro e w3 ⟨rfl,hb3⟩;obtain⟨y0,y1,y2,y3,y4,yd⟩:=n6_up HX.out hb3 (by simp);have HX3:=Lib.hid (n6_up HX.out hb3 (by simp));have HB3:=Lib.hid (HB2.out.trans (hb3.mono (by simp;omega)));have hz3:=hb3.size;simp only[World.size_alloc]at hz3;clear hb3 x0 x1 x2 x3 x4 xd)
    | (go_at_call 125;refine(refIn7_nil _ _).mono ?_;rintro e w5 ⟨rfl,rfl⟩))
   go_ret;exact⟨ret_int HS.out.symm,HB3.out⟩
  have p3:(op==3)=false:=by simpa using o3
  have p4:(op==4)=false:=by simpa using o4
  have HS:=Lib.hid (show R=kidsErr d (fun _=>false) (ks.drop 0) by
   have hE:E=0:=(by rw[HE2.out,if_neg (fun h=>o3 h.1),if_neg (fun h=>h.elim (fun h=>o3 h.1) (fun h=>o4 h.1))])
   rw[HR.out,hE,if_pos rfl];rfl)
  clear HR HE2 o3 o4;go_enter Tryz.func84,Tryz.ntmps84;go_wp2_with (go_at_call 123;refine(HFM.out _ HB2.out).mono ?_;rintro e w3 ⟨rfl,hb3⟩;obtain⟨y0,y1,y2,y3,y4,yd⟩:=n6_up HX.out hb3 (by simp);have HX3:=Lib.hid (n6_up HX.out hb3 (by simp));have HB3:=Lib.hid (HB2.out.trans (hb3.mono (by simp;omega)));have hz3:=hb3.size;simp only[World.size_alloc]at hz3;clear hb3 x0 x1 x2 x3 x4 xd);clear y0 y1 y2 y3 y4 yd;have HX9:=HX3;have HB9:=HB3;have hz9:w.heap.size+1<w3.heap.size:=by omega
  go_loopw [9] (fun iv wr=>∃k:Nat,k<=ks.length/\ iv=.int .i64 k/\ Hid (R=kidsErr d (fun _=>false) (ks.drop k))/\ Hid (Below w.heap.size w wr)/\ w.heap.size+1<wr.heap.size/\ Hid (N6 wr w.heap.size (.int .i64 op) (.string nm) (.int .i64 c) (.int .i64 n) (.slice ao ks.length cap) (.slice ad d.length cd))) (fun iv _=>ks.length-(intOf iv).toNat)
  case atStart=>exact⟨0,Nat.zero_le _,rfl,HS,HB9,hz9,HX9⟩
  case round=>
   obtain⟨k,hk,rfl,hin,hbw,hsz,hxx⟩:=hrel;by_cases hlt:k<ks.length
   {obtain⟨b,off,rfl,hbB,hL⟩:=H7.out (by intro h;simp[h]at hlt);obtain⟨ka,kc,q0,q1,q2,q3,q4,gk⟩:=Fo.InL.get ks off k hlt (Fo.InL.below (hbw.out.mono hB) hbB ks off hL);have hsk:=Fo.size_get ks k hlt;have ho:=kidsErr_drop d (fun _=>false) ks k hlt;have hin2:=hin.out;rw[ho]at hin2;have CK:=Lib.hid (IH.out ks[k] _ _ wr.drew B (by omega) (Nat.le_trans hB hbw.out.size) (Fo.In.below (World.drewN_below _ _ 1) _ _ gk) (HD0.out.below ((hbw.out.trans (World.drewN_below _ _ 1)).mono hB)));have HIN:=Lib.hid hin2;have HKB:=hbw;have HXX:=hxx;obtain⟨y0,y1,y2,y3,y4,yd⟩:=hxx.out;have k0:(0:Int)<=(k:Int):=Int.natCast_nonneg _;(have k1:(k:Int)<(ks.length:Int):=by omega);generalize ks[k]=x at*;generalize firstErr d (fun _=>false) (nodesL x)=ex at*;clear hin hin2 ho hL gk hsk hbw hxx;by_cases hex:ex=0;{subst hex;have HS9:=Lib.hid (show R=kidsErr d (fun _=>false) (ks.drop (k+1)) by rw[HIN.out,if_pos rfl]);clear HIN;go_wp2;refine wp_region_still_tail 8 (by kernel_rfl) (by kernel_rfl) ?_;simp only[List.take_succ_cons,List.take_zero,List.drop_succ_cons,List.drop_zero];(iterate 8 still_step);refine wpStill_nil ?_;change wpList _ _ _ _ _ wr.drew;go_wp2_with (go_at_call 84;refine CK.out.mono ?_;rintro e w8 ⟨rfl,hb8⟩;have HB8:=Lib.hid (HKB.out.trans (((World.drewN_below wr.heap.size wr 1).trans hb8).mono (by omega)));have HX8:=Lib.hid (n6_up HXX.out ((World.drewN_below wr.heap.size wr 1).trans hb8) hsz);have hz8:=hb8.size;obtain⟨s0,s1,s2,s3,s4,sd⟩:=HX8.out;clear hb8);go_roundw;(case rel=>exact⟨k+1,by omega,by go_num,HS9,HB8,Nat.lt_of_lt_of_le hsz hz8,HX8⟩);case measure=>simp[intOf];omega};{have HS9:=Lib.hid (show R=ex by rw[HIN.out,if_neg hex]);(have ge:(ex !=0)=true:=by simpa using hex);clear HIN hex;go_wp2;refine wp_region_still_tail 8 (by kernel_rfl) (by kernel_rfl) ?_;simp only[List.take_succ_cons,List.take_zero,List.drop_succ_cons,List.drop_zero];(iterate 8 still_step);refine wpStill_nil ?_;change wpList _ _ _ _ _ wr.drew;go_wp2_with (go_at_call 84;refine CK.out.mono ?_;rintro e w8 ⟨rfl,hb8⟩;have HB8:=Lib.hid (HKB.out.trans (((World.drewN_below wr.heap.size wr 1).trans hb8).mono (by omega)));clear hb8);go_ret;exact⟨ret_int HS9.out.symm,HB8.out⟩}}
   ·have HS9:=Lib.hid (show R=0 by
     have h0:=hin.out
     rw[List.drop_of_length_le (by omega)]at h0
     exact h0)
    obtain⟨y0,y1,y2,y3,y4,yd⟩:=hxx.out;clear hin;go_wp2;go_ret;exact⟨ret_int HS9.out.symm,hbw.out⟩
theorem refCheck_any (f:Fo)(d:List Fa)(v u:Value)(w:World)(B:Nat)(hM:f.size<=1000000)(hB:B<=w.heap.size)(hf:f.In w B v)(hd:DomIn w B d u):
  Calls Tryz.prog 53 #[v,u,.slice none 0 0] w fun e w'=>e=.returned (.int .i64 (checkF f d (fun _=>false)))/\ Below w.heap.size w w':=by
 have HF:=Lib.hid hf;have HD:=Lib.hid hd;obtain⟨ao,cap,rfl⟩:=hf.shape;obtain⟨du,rfl,hdu⟩:=hd;obtain⟨ad,cd,rfl,d1,d2,_⟩:=SlIn.shape hdu;have hb2:Below w.heap.size w ((w.alloc (.cells #[.int .i64 f.op,.string f.name,.int .i64 f.cmp,.int .i64 f.n,.slice ao f.kids.length cap] 47)).alloc (.cells #[.slice ad d.length cd] 25)):=((Below.refl _ _).alloc (Nat.le_refl _) _).alloc (by simp) _;have K0:=(Blk.new w 47 #[.int .i64 f.op,.string f.name,.int .i64 f.cmp,.int .i64 f.n,.slice ao f.kids.length cap]).below ((Below.refl _ _).alloc (Nat.le_refl _) (.cells #[.slice ad d.length cd] 25));have K1:Blk ((w.alloc (.cells #[.int .i64 f.op,.string f.name,.int .i64 f.cmp,.int .i64 f.n,.slice ao f.kids.length cap] 47)).alloc (.cells #[.slice ad d.length cd] 25)) (w.heap.size+1) 25 #[.slice ad d.length cd]:=by have h:=Blk.new (w.alloc (.cells #[.int .i64 f.op,.string f.name,.int .i64 f.cmp,.int .i64 f.n,.slice ao f.kids.length cap] 47)) 25 #[.slice ad d.length cd];simp only[World.size_alloc]at h;exact h
 have HX:Hid (N6 ((w.alloc (.cells #[.int .i64 f.op,.string f.name,.int .i64 f.cmp,.int .i64 f.n,.slice ao f.kids.length cap] 47)).alloc (.cells #[.slice ad d.length cd] 25)) w.heap.size (.int .i64 f.op) (.string f.name) (.int .i64 f.cmp) (.int .i64 f.n) (.slice ao f.kids.length cap) (.slice ad d.length cd)):=⟨K0.cell 0,K0.cell 1,K0.cell 2,K0.cell 3,K0.cell 4,K1.cell 0⟩;obtain⟨x0,x1,x2,x3,x4,xd⟩:=HX.out;have HB2:=Lib.hid hb2;have HR:Hid (checkF f d (fun _=>false)=if 200<f.size\/20<f.depth then 2 else firstErr d (fun _=>false) (nodesL f)):=rfl;have HLG:Hid (largeB f=(decide (200<f.size) || decide (20<f.depth))):=rfl;have CL:=Lib.hid (fun W (hb:Below w.heap.size w W)=>refLarge_any f _ W B hM (Nat.le_trans hB hb.size) (Fo.In.below (hb.mono hB) _ _ HF.out));have CN:=Lib.hid (fun W (hb:Below w.heap.size w W)=>refNode_any d f.size f _ _ W B (Nat.le_refl _) (Nat.le_trans hB hb.size) (Fo.In.below (hb.mono hB) _ _ HF.out) (HD.out.below (hb.mono hB)));generalize checkF f d (fun _=>false)=R at*
 generalize firstErr d (fun _=>false) (nodesL f)=E at*
 clear hf hdu hb2 K0 K1;cases hlg:largeB f with
 | true=>
  rw[hlg]at CL
  have HS:=Lib.hid (show R=2 by
   have h:=HLG.out
   rw[hlg,eq_comm,Bool.or_eq_true,decide_eq_true_eq,decide_eq_true_eq]at h
   rw[HR.out,if_pos h])
  clear hlg HLG HR;go_enter Tryz.func53,Tryz.ntmps53;go_wp2_with (go_at_call 83;refine(CL.out _ HB2.out).mono ?_;rintro e w3 ⟨rfl,hb3⟩;have HB3:=Lib.hid (HB2.out.trans (hb3.mono (by simp;omega)));clear hb3);go_ret;exact⟨ret_int HS.out.symm,HB3.out⟩
 | false=>
  rw[hlg]at CL
  have HS:=Lib.hid (show R=E by
   have h:=HLG.out
   rw[hlg,eq_comm,Bool.or_eq_false_iff,decide_eq_false_iff_not,decide_eq_false_iff_not]at h
   rw[HR.out,if_neg (fun h'=>h'.elim h.1 h.2)])
  clear hlg HLG HR;go_enter Tryz.func53,Tryz.ntmps53
  go_wp2_with (first
   | (go_at_call 83;refine(CL.out _ HB2.out).mono ?_;rintro e w3 ⟨rfl,hb3⟩;obtain⟨y0,y1,y2,y3,y4,yd⟩:=n6_up HX.out hb3 (by simp);have HB3:=Lib.hid (HB2.out.trans (hb3.mono (by simp;omega)));have hz3:=hb3.size;simp only[World.size_alloc]at hz3;clear hb3 x0 x1 x2 x3 x4 xd)
   | (go_at_call 84;refine(CN.out _ HB3.out).mono ?_;rintro e w4 ⟨rfl,hb4⟩;have HB4:=Lib.hid (HB3.out.trans (hb4.mono (by omega)));clear hb4))
  go_ret;exact⟨ret_int HS.out.symm,HB4.out⟩
open Go.RowKit
end Go.Proofs.YtihniipjfdenbaaGreatDoor
