/- The walks of the reference: pandectref05's names, pandectref06's domains, pandectref07's formulas; their plain halves. A bound on the number of nodes. -/
import Derived.Test.YtejbgoigkefnfaaGreatDoorAl
import Derived.Test.YtejbgoigkefnfaaGreatDoorDgTM
import Derived.Test.YtejbgoigkefnfaaGreatDoorHoldsA
import Derived.StillTailTactics
set_option maxRecDepth 100000
set_option maxHeartbeats 8000000
namespace Go.Proofs.YtejbgoigkefnfaaGreatDoor
open Go.RowKit
def Mv (c:Int):Bool:=decide ((97<=c/\ c<=122)\/(65<=c/\ c<=90))
def FT (c:Int):Bool:=decide (48<=c/\ c<=57)
def tq (c:Int):Bool:=decide (((97<=c/\ c<=122)\/(65<=c/\ c<=90))\/(48<=c/\ c<=57)\/c=95)
theorem JT {c:Int}(h:Mv c=true):tq c=true:=by
 unfold Mv at h;unfold tq;rw[decide_eq_true_eq]at h⊢;exact .inl h
theorem dQ (c:Nat):okB 0 c=Mv c:=by unfold okB Mv;congr 1;simp
theorem KT {k:Nat}(h:k≠0)(c:Nat):okB k c=tq c:=by unfold okB tq;congr 1;simp[h]
theorem pC :∀(l:List UInt8) (k:Nat),k≠0->Vi l k=l.all fun c=>tq (c.toNat:Int)
 | [],_,_=>rfl
 | c::l,k,h=>by rw[Vi,Ld,KT h,pC l (k+1) ia]
def eV (s:ByteArray):Bool:=(s.data.toList.all fun c=>tq (c.toNat:Int))&& (decide (0<s.size)&& decide (s.size<=24)&& Mv ((s.data.toList.headD 0).toNat:Int))
theorem eQ (s:ByteArray):eV s=Hd s:=by
 unfold eV Hd;rw[Bk];have hs:s.size=s.data.toList.length:=by simp
 rw[hs];cases s.data.toList with| nil=>simp| cons c l=>{rw[Vi,dQ,pC l 1 pa,Ld,List.headD_cons];(have h0:decide (0<(c::l).length)=true:=la);(have h1:decide ((c::l).length=0)=false:=la);rw[h0,h1];cases hl:Mv (c.toNat:Int)with| true=>rw[JT hl];simp| false=>simp}
def BR (d:List Fa)(f:Fa)(i:Nat):Bool:=
 Hd f.name&& (tg d f.name==(i:Int))&& decide (0<=f.lo)&& decide (f.lo<=f.hi)&& decide (f.hi<=1000000)&& (decide (1<=f.kind)&& decide (f.kind<=3))&& !((f.kind==1)&& ((f.lo !=0) || (f.hi !=1)))
theorem fQ (f:Fa):(Jo f || ll f)=(decide (0<=f.lo)&& decide (f.lo<=f.hi)&& decide (f.hi<=1000000)&& (decide (1<=f.kind)&& decide (f.kind<=3))&& !((f.kind==1)&& ((f.lo !=0) || (f.hi !=1)))):=by
 rw[Nc];simp only[Jo,ll,li,ub,Ad,decide_eq_true_eq,sg,Bool.and_eq_false_iff,Wh,bne_eq_false_iff_eq,beq_eq_false_iff_ne];omega
theorem Jz {α:Type}(p:α->Bool):∀(l:List α) (k:Int) (i:Nat) (hi:i<l.length),0<=k->p l[i]=true->(idxFrom p l k=k+i↔∀j,∀h:j<i,p (l[j]'(by omega))=false)
 | x::l,k,0,_,_,h=>by{simp only[Ob]at h;rw[idxFrom,if_pos h];simp}
 | x::l,k,i+1,hi,hk,h=>by{simp only[Ic]at h;rw[idxFrom];have ih:=Jz p l (k+1) i (by simpa using hi) ia h;constructor;{intro e j hj;(split at e);{omega};{rename_i hx;cases j with| zero=>simpa using hx| succ j=>exact ih.1 (by rw[e];omega) j ia}};{intro hall;have hx:p x=false:=hall 0 ia;rw[Aa (by rw[hx];decide),ih.2 (fun j hj=>hall (j+1) ia)];omega}}
theorem ZI (d:List Fa)(s:ByteArray):((wj d).lookup s).isNone= !(d.any fun f=>Ni f.name s):=by
 induction d with| nil=>rfl| cons f d ih=>{simp only[wj,Va,Db]at ih⊢;by_cases h:s=f.name;{subst h;simp[Ni]};{(have h1:(s==f.name)=false:=by simpa using h);(have h2:Ni f.name s=false:=Bool.eq_false_iff.2 fun e=>h (by unfold Ni at e;rw[<-jv]at e;simpa using(beq_iff_eq.1 e).symm));rw[h1,Tg,h2];exact ih}}
theorem Kz (d:List Fa):∀(m k:Nat),k+m=d.length->(jl (d.drop k) (wj (d.take k))=true↔∀i,∀h:i<d.length,k<=i->BR d d[i] i=true)
 | 0,k,e=>by{rw[Ta ia,jl];exact⟨fun _ i hi hk=>ia,fun _=>rfl⟩}
 | m+1,k,e=>by{(have hk:k<d.length:=ia);have key:((Jo d[k] || ll d[k])&& Hd d[k].name&& ((wj (d.take k)).lookup d[k].name).isNone)=BR d d[k] k:=by{rw[fQ];have hx:((wj (d.take k)).lookup d[k].name).isNone=(tg d d[k].name==(k:Int)):=by{rw[ZI,Nc,sg,List.any_eq_false,Ad];unfold tg;have h:=Jz (fun f:Fa=>Ni f.name d[k].name) d 0 k hk (Jc _) (by simp[Ni]);rw[Int.zero_add]at h;rw[h];constructor;{intro hh j hj;have:=hh (d[j]'(by omega)) (by rw[List.mem_take_iff_getElem];exact⟨j,ia,rfl⟩);simpa using this};{intro hh f hf;obtain⟨j,hj,rfl⟩:=List.mem_take_iff_getElem.1 hf;have:=hh j ia;simpa using this}};rw[hx];unfold BR;cases Hd d[k].name<;>cases(tg d d[k].name==(k:Int))<;>simp};rw[qw d k hk,key,ub,Kz d m (k+1) ia];constructor;{rintro⟨h1,h2⟩ i hi hki;by_cases hik:i=k;{subst hik;exact h1};{exact h2 i hi ia}};{intro h;exact⟨h k hk (ja _),fun i hi hki=>h i hi ia⟩}}
def oo (d:List Fa)(k:Nat):Bool:=(List.range k).all fun i=>match d[i]? with | some f=>BR d f i | none=>true
theorem rG (d:List Fa)(k:Nat)(h:k<d.length):oo d (k+1)=(oo d k&& BR d d[k] k):=by
 unfold oo;rw[List.range_succ,qi,Ld,List.all_nil,Bool.and_true,Pa h]
theorem uD {d:List Fa}{k:Nat}(h:k<d.length)(hf:BR d d[k] k=false):oo d d.length=false:=by
 unfold oo;rw[List.all_eq_false];exact⟨k,List.mem_range.2 h,by rw[Pa h];simp[hf]⟩
theorem qC (d:List Fa):Hf d=(oo d d.length&& decide (d.length<=60)):=by
 unfold Hf;congr 1
 rw[Nc];have h:=Kz d d.length 0 ia;simp only[Sd,ze]at h;rw[show wj []=[]from rfl]at h;rw[h];unfold oo;rw[Je];constructor
 {intro hh i hi;have hi:=List.mem_range.1 hi;rw[Pa hi];exact hh i hi (xb _)}
 {intro hh i hi _;have:=hh i (List.mem_range.2 hi);rwa[Pa hi]at this}
theorem nr (d:List Fa)(kn:ByteArray->Bool):∀(a b:List Fo),gd d kn (a++b)=if gd d kn a=0 then gd d kn b else gd d kn a
 | [],_=>by rw[Ya,gd,if_pos rfl]
 | x::a,b=>by{rw[Sb,gd,gd];by_cases h:Le d kn x=0;{rw[if_pos h,if_pos h];exact nr d kn a b};{rw[Aa h,Aa h,Aa h]}}
def Xi (d:List Fa)(kn:ByteArray->Bool):List Fo->Int
 | []=>0
 | x::l=>if gd d kn (qf x)=0 then Xi d kn l else gd d kn (qf x)
theorem Lz (d:List Fa)(kn:ByteArray->Bool):∀ks,gd d kn (Fg ks)=Xi d kn ks
 | []=>rfl
 | k::ks=>by rw[Fg,nr,Xi,Lz d kn ks]
theorem gQ (d:List Fa)(kn:ByteArray->Bool)(op:Int)(nm:ByteArray)(c n:Int)(ks:List Fo):gd d kn (qf (.mk op nm c n ks))=if Le d kn (.mk op nm c n ks)=0 then Xi d kn ks else Le d kn (.mk op nm c n ks):=by
 rw[qf,gd,Lz]
theorem Eu (d:List Fa)(kn:ByteArray->Bool)(ks:List Fo)(k:Nat)(h:k<ks.length):Xi d kn (ks.drop k)=if gd d kn (qf ks[k])=0 then Xi d kn (ks.drop (k+1))else gd d kn (qf ks[k]):=by
 rw[Qb h,Xi]
open Go.RowKit
theorem RX (c:Int):tq c=(Mv c || FT c || (c==95)):=by
 rw[Nc];simp only[tq,Mv,FT,li,decide_eq_true_eq,Ad];omega
theorem Mz (c:Int)(h0:0<=c)(h1:c<=255)(b:Bool)(hb:Mv c=b)(w:World):Calls Tryz.prog 130 #[.int .u8 c] w fun e w'=>e=.returned (.bool b)/\ w'=w:=by
 subst hb;rcases lr c h0 h1 with⟨hc,hc',t1,t2,t3,t4,t5,t6,t7⟩ | ⟨hc,hc',t1,t2,t3,t4,t5,t6,t7⟩ | ⟨hc,hc',t1,t2,t3,t4,t5,t6,t7⟩ | ⟨hc,hc',t1,t2,t3,t4,t5,t6,t7⟩ | ⟨hc,hc',t1,t2,t3,t4,t5,t6,t7⟩ | ⟨hc,hc',t1,t2,t3,t4,t5,t6,t7⟩ | ⟨hc,hc',t1,t2,t3,t4,t5,t6,t7⟩ | ⟨hc,hc',t1,t2,t3,t4,t5,t6,t7⟩ | ⟨hc,hc',t1,t2,t3,t4,t5,t6,t7⟩
 all_goals
  go_enter Tryz.func130,Tryz.ntmps130;go_wp2;go_ret
  first
  | exact⟨Oa (Ma ia).symm,rfl⟩
  | exact⟨Oa (Ia ia).symm,rfl⟩
theorem dM (c:Int)(h0:0<=c)(h1:c<=255)(b:Bool)(hb:FT c=b)(w:World):Calls Tryz.prog 153 #[.int .u8 c] w fun e w'=>e=.returned (.bool b)/\ w'=w:=by
 subst hb;rcases lr c h0 h1 with⟨hc,hc',t1,t2,t3,t4,t5,t6,t7⟩ | ⟨hc,hc',t1,t2,t3,t4,t5,t6,t7⟩ | ⟨hc,hc',t1,t2,t3,t4,t5,t6,t7⟩ | ⟨hc,hc',t1,t2,t3,t4,t5,t6,t7⟩ | ⟨hc,hc',t1,t2,t3,t4,t5,t6,t7⟩ | ⟨hc,hc',t1,t2,t3,t4,t5,t6,t7⟩ | ⟨hc,hc',t1,t2,t3,t4,t5,t6,t7⟩ | ⟨hc,hc',t1,t2,t3,t4,t5,t6,t7⟩ | ⟨hc,hc',t1,t2,t3,t4,t5,t6,t7⟩
 all_goals
  go_enter Tryz.func153,Tryz.ntmps153;go_wp2;go_ret
  first
  | exact⟨Oa (Ma ia).symm,rfl⟩
  | exact⟨Oa (Ia ia).symm,rfl⟩
theorem sG (c:Int)(h0:0<=c)(h1:c<=255)(b:Bool)(hb:tq c=b)(w:World):Calls Tryz.prog 129 #[.int .u8 c] w fun e w'=>e=.returned (.bool b)/\ w'=w:=by
 rw[RX]at hb;subst hb;cases hl:Mv c<;>cases hd:FT c<;>cases h5:(c==95)
 all_goals
  have CL:=fun w=>da (Mz c h0 h1 _ hl w)
  have CD:=fun w=>da (dM c h0 h1 _ hd w)
  clear hl hd;go_enter Tryz.func129,Tryz.ntmps129
  go_wp2_with (first
   | (go_at_call 130;refine(CL _).out.mono ?_;rintro e w2 ⟨rfl,rfl⟩)
   | (go_at_call 153;refine(CD _).out.mono ?_;rintro e w2 ⟨rfl,rfl⟩))
  go_ret;exact⟨rfl,rfl⟩
theorem aJ (s:ByteArray)(k:Nat)(h:k<s.size):(s.data.toList.take (k+1)).all (fun c=>tq (c.toNat:Int))=((s.data.toList.take k).all (fun c=>tq (c.toNat:Int))&& tq (s[k].toNat:Int)):=by
 rw[Ka (by simpa using h),qi,Ld,List.all_nil,Bool.and_true]
 rfl
theorem Bi (s:ByteArray)(w:World)(hs:s.size<=maxLen)(b:Bool)(hb:Hd s=b):
  Calls Tryz.prog 109 #[.string s] w fun e w'=>e=.returned (.bool b)/\ w'=w:=by
 subst hb;unfold maxLen at hs;have HR:Hid (Hd s=((s.data.toList.all fun c=>tq (c.toNat:Int))&& (decide (0<s.size)&& decide (s.size<=24)&& Mv ((s.data.toList.headD 0).toNat:Int)))):=(eQ s).symm;generalize Hd s=R at*
 go_enter Tryz.func109,Tryz.ntmps109;go_wp2
 go_loopw [3] (fun i wr=>∃k:Nat,k<=s.size/\ i=.int .i64 k/\ wr=w/\ Hid ((s.data.toList.take k).all (fun c=>tq (c.toNat:Int))=true)) (fun i _=>s.size-(intOf i).toNat)
 case atStart=>exact⟨0,ia,rfl,rfl,rfl⟩
 case round=>
  obtain⟨k,hk,rfl,iQ,hin⟩:=hrel;obtain rfl:w=wr:=iQ.symm;by_cases hlt:k<s.size
  {have ho:=aJ s k hlt;rw[hin.out,Ge]at ho;(have hno:tq (s[k].toNat:Int)=false->R=false:=fun h=>by{rw[HR.out,show(s.data.toList.all fun c=>tq (c.toNat:Int))=false from List.all_eq_false.2 ⟨s[k],by rw[List.mem_iff_getElem];exact⟨k,by simpa using hlt,rfl⟩,by simp[h]⟩];rfl});have HN:=da hno;have HO:=da ho;(have b0:(0:Int)<=(s[k].toNat:Int):=ia);(have b1:(s[k].toNat:Int)<=255:=by have:=s[k].toNat_lt;omega);clear hno ho hin;cases hx:tq (s[k].toNat:Int)with| false=>{(have CW:=fun w=>da (sG _ b0 b1 _ hx w));have HS:=da (HN.out hx);clear hx;go_wp2_with (go_at_call 129;refine(CW _).out.mono ?_;rintro e w2 ⟨rfl,rfl⟩);go_ret;exact⟨Oa HS.out.symm,rfl⟩}| true=>{(have CW:=fun w=>da (sG _ b0 b1 _ hx w));have HS:=da (HO.out.trans hx);clear hx;go_wp2_with (go_at_call 129;refine(CW _).out.mono ?_;rintro e w2 ⟨rfl,rfl⟩);go_roundw;(case rel=>exact⟨k+1,ia,by go_num,by trivial,HS⟩);case measure=>simp[intOf];omega}}
  ·have hall:(s.data.toList.all fun c=>tq (c.toNat:Int))=true:=by
    have:=hin.out
    rwa[Ac (by simp;omega)]at this
   have Fi:Hid (R=(decide (0<s.size)&& decide (s.size<=24)&& Mv ((s.data.toList.headD 0).toNat:Int))):=by show _=_;rw[HR.out,hall,Ge]
   clear hin hall HR;by_cases h0:s.size=0
   {have g0:decide ((0:Int)<(s.size:Int))=false:=Ia ia;have HS:=da (show R=false by rw[Fi.out,Ia (show ¬0<s.size by omega)];rfl);go_wp2;go_ret;exact⟨Oa HS.out.symm,rfl⟩}
   {have g0:decide ((0:Int)<(s.size:Int))=true:=Ma ia;(have g0':0<s.size:=ia);by_cases aM:s.size<=24;{have g1:decide ((s.size:Int)<=24)=true:=Ma ia;(have jQ:0<s.size:=ia);have hh:(s.data.toList.headD 0)=s[0]:=by{(have:s.data.toList≠[]:=fun e=>h0 (by have:=congrArg List.length e;simpa using this));cases hd:s.data.toList with| nil=>exact absurd hd this| cons a l=>{show a=s[0];(have h1:s.data.toList[0]? =some a:=by rw[hd];rfl);(have h2:s.data.toList[0]? =some s[0]:=by rw[Pa (by simpa using jQ)];rfl);rw[h1]at h2;exact Zg h2}};have HS:=da (show R=Mv (s[0].toNat:Int) by rw[Fi.out,hh,Ma jQ,Ma aM];simp);(have b0:(0:Int)<=(s[0].toNat:Int):=ia);(have b1:(s[0].toNat:Int)<=255:=by have:=s[0].toNat_lt;omega);(have CL:=fun w=>da (Mz _ b0 b1 _ rfl w));clear hh h0 aM;go_wp2_with (go_at_call 130;refine(CL _).out.mono ?_;rintro e w2 ⟨rfl,rfl⟩);go_ret;exact⟨Oa HS.out.symm,rfl⟩};{have g1:decide ((s.size:Int)<=24)=false:=Ia ia;have HS:=da (show R=false by rw[Fi.out,Ia aM];simp);clear h0 aM;go_wp2;go_ret;exact⟨Oa HS.out.symm,rfl⟩}}
theorem vD (s:ByteArray)(w:World)(hs:s.size<=maxLen)(b:Bool)(hb:Hd s=b):
  Calls Tryz.prog 154 #[.string s] w fun e w'=>e=.returned (.bool b)/\ w'=w:=by
 subst hb;unfold maxLen at hs;have HR:Hid (Hd s=(Vi s.data.toList 0&& !s.toList.isEmpty&& decide (s.size<=24))):=rfl;generalize Hd s=R at*
 go_enter Tryz.func154,Tryz.ntmps154;go_wp2
 go_loopw [3] (fun i wr=>∃k:Nat,k<=s.size/\ i=.int .i64 k/\ wr=w/\ Hid (Vi (s.data.toList.drop k) k=Vi s.data.toList 0)) (fun i _=>s.size-(intOf i).toNat)
 case atStart=>exact⟨0,ia,rfl,rfl,rfl⟩
 case round=>
  obtain⟨k,hk,rfl,iQ,hin⟩:=hrel;obtain rfl:w=wr:=iQ.symm;by_cases hlt:k<s.size
  ·have ho:=zt s k hlt
   rw[hin.out]at ho;have HO:=da ho;clear ho hin;have lG:okB k s[k].toNat=true->Vi (s.data.toList.drop (k+1)) (k+1)=Vi s.data.toList 0:=fun h=>by rw[HO.out,h,Ge]
   have hno:okB k s[k].toNat=false->R=false:=fun h=>by rw[HR.out,HO.out,h];simp
   have HY:=da lG;have HN:=da hno;clear lG hno HO HR;have hcl:=lr (s[k].toNat:Int) ia (by have:=s[k].toNat_lt;omega);obtain⟨kz,cw⟩:∃kz,((k:Int)==0)=kz:=⟨_,rfl⟩
   have acb:(k=0/\ kz=true)\/(k≠0/\ kz=false):=by{by_cases h:k=0;{left;exact⟨h,by rw[<-cw];simp[h]⟩};{right;exact⟨h,by rw[<-cw];simp[h]⟩}}
   obtain⟨u1,GJ⟩:∃u1,decide ((s[k].toNat:Int)<48)=u1:=⟨_,rfl⟩;obtain⟨u2,lu⟩:∃u2,decide ((57:Int)<(s[k].toNat:Int))=u2:=⟨_,rfl⟩;obtain⟨u3,iN⟩:∃u3,((s[k].toNat:Int) !=95)=u3:=⟨_,rfl⟩;have v1:u1= !(decide ((48:Int)<=(s[k].toNat:Int))):=by rw[<-GJ];by_cases h:(s[k].toNat:Int)<48<;>simp[h]<;>omega
   have v2:u2= !(decide ((s[k].toNat:Int)<=57)):=by rw[<-lu];by_cases h:(57:Int)<(s[k].toNat:Int)<;>simp[h]<;>omega
   have v3:u3= !((s[k].toNat:Int)==95):=by rw[<-iN];rfl
   rcases hcl with⟨hc,hc',t1,t2,t3,t4,t5,t6,t7⟩ | ⟨hc,hc',t1,t2,t3,t4,t5,t6,t7⟩ | ⟨hc,hc',t1,t2,t3,t4,t5,t6,t7⟩ | ⟨hc,hc',t1,t2,t3,t4,t5,t6,t7⟩ | ⟨hc,hc',t1,t2,t3,t4,t5,t6,t7⟩ | ⟨hc,hc',t1,t2,t3,t4,t5,t6,t7⟩ | ⟨hc,hc',t1,t2,t3,t4,t5,t6,t7⟩ | ⟨hc,hc',t1,t2,t3,t4,t5,t6,t7⟩ | ⟨hc,hc',t1,t2,t3,t4,t5,t6,t7⟩<;>
    rcases acb with⟨rfl,rfl⟩ | ⟨hk0,rfl⟩
   all_goals
    rw[t5]at v1;rw[t6]at v2;rw[t7]at v3;subst v1 v2 v3
    try(have hkp:0<k:=ia;clear hk0)
    go_wp2
    first
    | (go_ret;exact⟨Oa (HN.out (Ia ia)).symm,rfl⟩)
    | (go_roundw;(case rel=>first | exact⟨k+1,ia,by go_num,by trivial,HY.out (Ma ia)⟩ | exact⟨0+1,ia,by go_num,by trivial,HY.out (Ma ia)⟩);(case measure=>first | (simp[intOf];omega) | simp[intOf]))
  ·have Fi:Hid (R=(!s.toList.isEmpty&& decide (s.size<=24))):=by
    have h0:=hin.out;rw[Ta (by simp;omega),Vi]at h0
    show _=_
    rw[HR.out, <-h0];simp
   clear hin HR;have pD:=Bk s;by_cases h0:s.size=0
   {rw[Ma h0]at pD;rw[pD]at Fi;have g0:decide ((0:Int)<(s.size:Int))=false:=Ia ia;go_wp2;go_ret;exact⟨Oa (by rw[Fi.out];simp),rfl⟩}
   {rw[Ia h0]at pD;rw[pD]at Fi;have g0:decide ((0:Int)<(s.size:Int))=true:=Ma ia;(have g0':0<s.size:=ia);by_cases aM:s.size<=24;{have g1:decide ((s.size:Int)<=24)=true:=Ma ia;rw[Ma aM]at Fi;clear h0;go_wp2;go_ret;exact⟨Oa (by rw[Fi.out];simp),rfl⟩};{have g1:decide ((s.size:Int)<=24)=false:=Ia ia;rw[Ia aM]at Fi;clear h0 aM;go_wp2;go_ret;exact⟨Oa (by rw[Fi.out];simp),rfl⟩}}
open Go.RowKit
theorem rC (d:List Fa)(s:ByteArray)(k:Nat)(h:k<d.length):idxFrom (fun f:Fa=>Ni f.name s) (d.drop k) k=if Ni d[k].name s then(k:Int)else idxFrom (fun f:Fa=>Ni f.name s) (d.drop (k+1)) ((k+1:Nat):Int):=by
 rw[Kk _ _ _ h]
 rfl
theorem yA (d:List Fa)(s:ByteArray)(v:Value)(w:World)(B:Nat)(hB:B<=w.heap.size)(hd:bf w B d v):
  Calls Tryz.prog 110 #[v,.string s] w fun e w'=>e=.returned (.int .i64 (tg d s))/\ Below w.heap.size w w':=by
 obtain⟨u,rfl,hd⟩:=hd;obtain⟨ad,cd,rfl,d1,d2,_⟩:=Xa.shape hd;unfold maxLen at d2;have Ff:Below w.heap.size w (w.alloc (.cells #[.slice ad d.length cd] 27)):=(za _ _).alloc (ja _) _;have x0:(w.alloc (.cells #[.slice ad d.length cd] 27)).cell? ⟨w.heap.size,0,none⟩=some (.slice ad d.length cd):=by rw[World.cell?_alloc_at _ _ _ _ rfl];rfl
 have HD:=da hd;have HB:=da Ff;have HR:Hid (tg d s=idxFrom (fun f=>Ni f.name s) (d.drop 0) (0:Nat)):=rfl;generalize tg d s=R at*
 clear hd Ff;go_enter Tryz.func110,Tryz.ntmps110;go_wp2
 go_loopw [5] (fun i wr=>∃k:Nat,k<=d.length/\ i=.int .i64 k/\ Hid (R=idxFrom (fun f=>Ni f.name s) (d.drop k) k)/\ wr=(w.alloc (.cells #[.slice ad d.length cd] 27))) (fun i _=>d.length-(intOf i).toNat)
 case atStart=>exact⟨0,ia,rfl,HR,rfl⟩
 case round=>
  obtain⟨k,hk,rfl,hin,iQ⟩:=hrel;subst iQ;by_cases hlt:k<d.length
  {obtain⟨b,off,rfl,Rj,f0,_⟩:=Xa.at (HD.out.below Iw.kept (HB.out.mono hB)) k hlt;have ho:=rC d s k hlt;have ng:=hin.out;rw[ho]at ng;have k0:(0:Int)<=(k:Int):=Ab _;(have k1:(k:Int)<(d.length:Int):=ia);generalize d[k].name=id at*;have HI:=da ng;clear ho ng hin;by_cases he:(id.toList==s.toList)=true;{have HS:=da (show R=(k:Int) by rw[HI.out];unfold Ni;rw[if_pos he]);go_wp2;go_ret;exact⟨ke HS.out.symm,HB.out⟩};{(have he':(id.toList==s.toList)=false:=by simpa using he);have HS:=da (show R=idxFrom (fun f:Fa=>Ni f.name s) (d.drop (k+1)) ((k+1:Nat):Int) by rw[HI.out];unfold Ni;rw[Aa he]);clear he;go_wp2;go_roundw;(case rel=>exact⟨k+1,ia,by go_num,HS,by trivial⟩);case measure=>simp[intOf];omega}}
  ·have HS:=da (show R= -1 by
    have h0:=hin.out
    rw[Ta ia]at h0
    exact h0)
   clear hin;go_wp2;go_ret;exact⟨ke HS.out.symm,HB.out⟩
theorem Ps (d:List Fa)(s:ByteArray)(v:Value)(w:World)(B:Nat)(hB:B<=w.heap.size)(hd:bf w B d v):
  Calls Tryz.prog 133 #[v,.string s] w fun e w'=>e=.returned (.int .i64 (tg d s))/\ Below w.heap.size w w':=by
 obtain⟨u,rfl,hd⟩:=hd;obtain⟨ad,cd,rfl,d1,d2,_⟩:=Xa.shape hd;unfold maxLen at d2;have Ff:Below w.heap.size w (w.alloc (.cells #[.slice ad d.length cd] 27)):=(za _ _).alloc (ja _) _;have x0:(w.alloc (.cells #[.slice ad d.length cd] 27)).cell? ⟨w.heap.size,0,none⟩=some (.slice ad d.length cd):=by rw[World.cell?_alloc_at _ _ _ _ rfl];rfl
 have HD:=da hd;have HB:=da Ff;have HR:Hid (tg d s=idxFrom (fun f=>Ni f.name s) (d.drop 0) (0:Nat)):=rfl;generalize tg d s=R at*
 clear hd Ff;go_enter Tryz.func133,Tryz.ntmps133;go_wp2
 go_loopw [5] (fun i wr=>∃k:Nat,k<=d.length/\ i=.int .i64 k/\ Hid (R=idxFrom (fun f=>Ni f.name s) (d.drop k) k)/\ wr=(w.alloc (.cells #[.slice ad d.length cd] 27))) (fun i _=>d.length-(intOf i).toNat)
 case atStart=>exact⟨0,ia,rfl,HR,rfl⟩
 case round=>
  obtain⟨k,hk,rfl,hin,iQ⟩:=hrel;subst iQ;by_cases hlt:k<d.length
  {obtain⟨b,off,rfl,Rj,f0,_⟩:=Xa.at (HD.out.below Iw.kept (HB.out.mono hB)) k hlt;have ho:=rC d s k hlt;have ng:=hin.out;rw[ho]at ng;have k0:(0:Int)<=(k:Int):=Ab _;(have k1:(k:Int)<(d.length:Int):=ia);generalize d[k].name=id at*;have HI:=da ng;clear ho ng hin;by_cases he:(id.toList==s.toList)=true;{have HS:=da (show R=(k:Int) by rw[HI.out];unfold Ni;rw[if_pos he]);go_wp2;go_ret;exact⟨ke HS.out.symm,HB.out⟩};{(have he':(id.toList==s.toList)=false:=by simpa using he);have HS:=da (show R=idxFrom (fun f:Fa=>Ni f.name s) (d.drop (k+1)) ((k+1:Nat):Int) by rw[HI.out];unfold Ni;rw[Aa he]);clear he;go_wp2;go_roundw;(case rel=>exact⟨k+1,ia,by go_num,HS,by trivial⟩);case measure=>simp[intOf];omega}}
  ·have HS:=da (show R= -1 by
    have h0:=hin.out
    rw[Ta ia]at h0
    exact h0)
   clear hin;go_wp2;go_ret;exact⟨ke HS.out.symm,HB.out⟩
theorem tG (N:Nat):∀(f:Fo) (v:Value) (w:World) (B:Nat),f.size<=N->f.size<=1000000->B<=w.heap.size->f.In w B v->
  Calls Tryz.prog 131 #[v] w fun e w'=>e=.returned (.tuple #[.int .i64 f.size,.int .i64 f.depth])/\ Below w.heap.size w w':=by
 induction N with
 | zero=>intro f _ _ _ h;have:=f.size_pos;omega
 | succ N ih=>
 intro f v w B hN hM hB hf;have IH:=da ih;clear ih;obtain⟨op,nm,c,n,ks⟩:=f;obtain⟨ao,cap,rfl,h1,h2,h3,h4,h5,h6,h7⟩:=hf;unfold maxLen at h6;have H7:=da h7;have HS:=da (show(Fo.mk op nm c n ks).size=Fo.Tc ks+1 by rw[Fo.size]);have HD:=da (show(Fo.mk op nm c n ks).depth=Fo.bi ks+1 by rw[Fo.depth]);rw[HS.out]at hN hM;generalize(Fo.mk op nm c n ks).size=S at*
 generalize(Fo.mk op nm c n ks).depth=D at*
 clear h7 h1 h2 h3 h4;go_enter Tryz.func131,Tryz.ntmps131;go_wp2
 go_loopw [4,5,6] (fun n dp i wr=>∃k a b:Nat,k<=ks.length/\ i=.int .i64 k/\ n=.int .i64 a/\ dp=.int .i64 b/\ Hid (a=Fo.Tc (ks.take k)+1)/\ Hid (b=Fo.bi (ks.take k))/\ a<=1000000/\ b<=1000000/\
  Below w.heap.size w wr/\ w.heap.size<wr.heap.size/\ wr.cell? ⟨w.heap.size,4,none⟩=some (.slice ao ks.length cap)) (fun _ _ i _=>ks.length-(intOf i).toNat)
 case atStart=>exact⟨0,1,0,ia,rfl,rfl,rfl,by simp[Fo.Tc,Hid],by simp[Fo.bi,Hid],ia,ia,(za _ _).alloc (ja _) _,la,by go_simp⟩
 case round=>
  obtain⟨k,a,b,hk,rfl,rfl,rfl,ha,hb,hal,En,Zd,hsz,F9⟩:=hrel;by_cases hlt:k<ks.length
  {obtain⟨bb,off,rfl,Rj,hL⟩:=H7.out (by intro h;simp[h]at hlt);obtain⟨ka,kc,g0,g1,g2,g3,g4,gk⟩:=Fo.Qk.get ks off k hlt (Fo.Qk.below (Zd.mono hB) Rj ks off hL);have hs1:=Fo.Nj ks k hlt;have GC:=Fo.sw ks k hlt;have qm:=Fo.Oj ks (k+1);have hsk:=Fo.fg ks k hlt;have hdk:=Fo.Cq ks[k];generalize hx:ks[k]=x at*;have A1:=da (show a+x.size=Fo.Tc (ks.take (k+1))+1 by rw[hs1,ha.out];omega);(have A2:a+x.size<=1000000:=by rw[A1.out];omega);have A3:=da (show max b x.depth=Fo.bi (ks.take (k+1)) by rw[GC,hb.out]);(have A4:x.depth<=1000000:=ia);have GK:=da gk;(have pw:x.size<=N:=ia);(have SP:x.size<=1000000:=ia);clear gk hL H7 hs1 GC hx qm hsk hdk ha hb;have di:=da Zd;by_cases XL:b<x.depth;{(have hc1:(b:Int)<(x.depth:Int):=ia);go_wp2_with (go_at_call 131;refine(IH.out _ _ _ B pw SP ?_ GK.out).mono ?_;(omega);rintro e w' ⟨rfl,hb'⟩;have z4:=(hb'.cell (p:=⟨w.heap.size,4,none⟩) (by show w.heap.size<_;omega)).trans F9);go_roundw;(case rel=>exact⟨k+1,a+x.size,x.depth,ia,by go_num,by go_num,by congr 1;omega,A1,by show _=_;rw[<-A3.out];omega,A2,A4,di.out.trans (hb'.mono ia),by have:=hb'.size;omega,z4⟩);case measure=>simp[intOf];omega};{(have hc1:(x.depth:Int)<=(b:Int):=ia);go_wp2_with (go_at_call 131;refine(IH.out _ _ _ B pw SP ?_ GK.out).mono ?_;(omega);rintro e w' ⟨rfl,hb'⟩;have z4:=(hb'.cell (p:=⟨w.heap.size,4,none⟩) (by show w.heap.size<_;omega)).trans F9);go_roundw;(case rel=>exact⟨k+1,a+x.size,b,ia,by go_num,by go_num,by congr 1;omega,A1,by show _=_;rw[<-A3.out];omega,A2,En,di.out.trans (hb'.mono ia),by have:=hb'.size;omega,z4⟩);case measure=>simp[intOf];omega}}
  ·have e1:((a:Nat):Int)=(S:Nat):=by
    have:=ha.out;rw[Ac ia]at this;have:=HS.out;omega
   have e2:((b:Nat):Int)+1=(D:Nat):=by{have:=hb.out;rw[Ac ia]at this;have:=HD.out;omega}
   have E1:=da e1;have E2:=da e2;clear e1 e2 ha hb;go_wp2;go_ret2;exact⟨jG E1.out E2.out,Zd⟩
def Nz (f:Fo):Bool:=decide (200<f.size) || decide (20<f.depth)
theorem xD (f:Fo)(v:Value)(w:World)(B:Nat)(hM:f.size<=1000000)(hB:B<=w.heap.size)(hf:f.In w B v):
  Calls Tryz.prog 111 #[v] w fun e w'=>e=.returned (.bool (Nz f))/\ Below w.heap.size w w':=by
 obtain⟨ao,cap,rfl⟩:=hf.shape;have HF:=da hf;have hdp:=Fo.Cq f;have HR:Hid (Nz f=(decide (200<f.size) || decide (20<f.depth))):=rfl;have CS:=da (fun W (hb:Below w.heap.size w W)=>tG f.size f _ W B (ja _) hM (Wa hB hb.size) (Fo.In.below (hb.mono hB) _ _ HF.out));generalize Nz f=R at*
 generalize f.size=s at*
 generalize f.depth=p at*
 clear hf;have Zd:Below w.heap.size w (w.alloc (.cells #[.int .i64 f.op,.string f.name,.int .i64 f.cmp,.int .i64 f.n,.slice ao f.kids.length cap] 24)):=(za _ _).alloc (ja _) _;have di:=da Zd;clear Zd;by_cases h1:200<s
 {(have g1:(200:Int)<(s:Int):=ia);have HS:=da (show R=true by rw[HR.out,Ma h1];rfl);clear HR;go_enter Tryz.func111,Tryz.ntmps111;go_wp2_with (go_at_call 131;refine(CS.out _ di.out).mono ?_;rintro e w' ⟨rfl,hb'⟩;have V5:=da (di.out.trans (hb'.mono la));clear hb');go_ret;exact⟨Oa HS.out.symm,V5.out⟩}
 {have g1:decide ((200:Int)<(s:Int))=false:=Ia ia;by_cases h2:20<p;{have g2:decide ((20:Int)<(p:Int))=true:=Ma ia;have HS:=da (show R=true by rw[HR.out,Ma h2];simp);clear HR h1;go_enter Tryz.func111,Tryz.ntmps111;go_wp2_with (go_at_call 131;refine(CS.out _ di.out).mono ?_;rintro e w' ⟨rfl,hb'⟩;have V5:=da (di.out.trans (hb'.mono la));clear hb');go_ret;exact⟨Oa HS.out.symm,V5.out⟩};{have g2:decide ((20:Int)<(p:Int))=false:=Ia ia;have HS:=da (show R=false by rw[HR.out,Ia h1,Ia h2];rfl);clear HR h1 h2;go_enter Tryz.func111,Tryz.ntmps111;go_wp2_with (go_at_call 131;refine(CS.out _ di.out).mono ?_;rintro e w' ⟨rfl,hb'⟩;have V5:=da (di.out.trans (hb'.mono la));clear hb');go_ret;exact⟨Oa HS.out.symm,V5.out⟩}}
theorem Oz (a how b:Int)(w:World)(h1:1<=how)(h6:how<=6):
  Calls Tryz.prog 134 #[.int .i64 a,.int .i64 how,.int .i64 b] w fun e w'=>e=.returned (.bool (Il a how b))/\ w'=w:=by
 have hh:how=1\/how=2\/how=3\/how=4\/how=5\/how=6:=by omega
 clear h1 h6;rcases hh with rfl | rfl | rfl | rfl | rfl | rfl
 all_goals
  go_enter Tryz.func134,Tryz.ntmps134;go_wp2;go_ret;refine⟨Oa ?_,rfl⟩;unfold Il
  first
  | (rw[Nc];simp;done)
  | (rw[Nc];simp;omega)
open Go.RowKit
theorem Pz (s:ByteArray)(w:World):Calls Tryz.prog 113 #[.slice none 0 0,.string s] w fun e w'=>e=.returned (.bool false)/\ w'=w:=by
 go_enter Tryz.func113,Tryz.ntmps113;go_wp2
 go_loopw [5] (fun i wr=>i=.int .i64 0/\ wr=w) (fun i _=>0)
 case atStart=>exact⟨rfl,rfl⟩
 case round=>(obtain⟨rfl,iQ⟩:=hrel;subst iQ;go_wp2;go_ret;exact⟨rfl,rfl⟩)
def gK (nm:ByteArray)(c n:Int):Bool:=(nm.toList.isEmpty&& (c==0))&& (n==0)
theorem zA (f:Fo)(v:Value)(w:World)(B:Nat)(hf:f.In w B v)(fb:Bool)(NG:Gg f=fb):
  Calls Tryz.prog 132 #[v] w fun e w'=>e=.returned (.bool fb)/\ Below w.heap.size w w':=by
 obtain⟨op,nm,c,n,ks⟩:=f;obtain⟨ao,cap,rfl,h1,h2,h3,h4,h5,h6,_⟩:=hf;unfold maxLen at h6;have Ff:Below w.heap.size w (w.alloc (.cells #[.int .i64 op,.string nm,.int .i64 c,.int .i64 n,.slice ao ks.length cap] 24)):=(za _ _).alloc (ja _) _;have HB:=da Ff;have K0:=Bb.new w 24 #[.int .i64 op,.string nm,.int .i64 c,.int .i64 n,.slice ao ks.length cap];have x0:=K0.cell 0;have x1:=K0.cell 1;have x2:=K0.cell 2;have x3:=K0.cell 3;have x4:=K0.cell 4
 have hk:(((ks.length:Int)==0)=true/\ decide (ks.length=0)=true/\ ((ks.length:Int)==1)=false/\ decide (ks.length=1)=false/\ decide ((2:Int)<=ks.length)=false/\ decide (2<=ks.length)=false)\/
   (((ks.length:Int)==0)=false/\ decide (ks.length=0)=false/\ ((ks.length:Int)==1)=true/\ decide (ks.length=1)=true/\ decide ((2:Int)<=ks.length)=false/\ decide (2<=ks.length)=false)\/
   (((ks.length:Int)==0)=false/\ decide (ks.length=0)=false/\ ((ks.length:Int)==1)=false/\ decide (ks.length=1)=false/\ decide ((2:Int)<=ks.length)=true/\ decide (2<=ks.length)=true):=by
  rcases(by omega:ks.length=0\/ks.length=1\/2<=ks.length)with h | h | h
  {left;simp[h]}
  {right;left;simp[h]}
  {right;right;exact⟨beq_eq_false_iff_ne.2 ia,Ia ia,beq_eq_false_iff_ne.2 ia,Ia ia,Ma ia,Ma ia⟩}
 have CN:=fun b (hb:Hd nm=b) w=>da (vD nm w h4 b hb)
 have HR:Hid (fb=if eu (.mk op nm c n ks)then false
  else if op=1\/op=2 then decide (ks.length=0)
  else if op=3 then((decide (ks.length=0)&& Hd nm)&& decide (1<=c))&& decide (c<=6)
  else if op=4 then decide (ks.length=0)&& Hd nm
  else if op=5 then decide (ks.length=1)
  else if op=6\/op=7 then decide (2<=ks.length)
  else false):=NG.symm
 have TI:eu (.mk op nm c n ks)=(((op !=3)&& ((c !=0) || (n !=0))) || (((op !=3)&& (op !=4))&& !nm.toList.isEmpty)):=rfl;generalize decide (ks.length=0)=k0 at*
 generalize decide (ks.length=1)=k1 at*
 generalize decide (2<=ks.length)=k2 at*
 generalize eu (.mk op nm c n ks)=bd at*
 have Mt:=da TI;clear NG h1 h2 h3 Ff K0 TI;go_enter Tryz.func132,Tryz.ntmps132;go_upto_region 1 with(fail)
 go_cut[3] (fun s3 wx=>s3=.bool (gK nm c n)/\ wx=(w.alloc (.cells #[.int .i64 op,.string nm,.int .i64 c,.int .i64 n,.slice ao ks.length cap] 24)))
 case first=>
  cases a3:(c==0)<;>cases a4:(n==0)<;>cases a5:nm.toList.isEmpty
  all_goals
   have a6:(nm.toList==[])=nm.toList.isEmpty:=by cases nm.toList<;>rfl
   rw[a5]at a6;go_wp2;go_meet;exact⟨by simp[gK,a3,a4,a5],rfl⟩
 case rest=>
  obtain⟨rfl,rfl⟩:=hcut;have vw:gK nm c n=((nm.toList.isEmpty&& (c==0))&& (n==0)):=rfl;clear x0 x1;cases cE:gK nm c n with
  | true=>
   rw[cE]at vw
   have hb':bd=false\/op=3\/op=4:=by{left;simp only[Bool.true_eq,ub,Ad]at vw;obtain⟨⟨q1,q2⟩,q3⟩:=vw;rw[Mt.out,q1,q2,q3];simp}
   have ud:op≠3->op≠4->bd=false:=fun a b=>hb'.resolve_right (fun h=>h.elim a b)
   clear vw cE hb';by_cases o3:op=3
   ·subst o3
    have hbd:bd=false:=by rw[Mt.out];rfl
    rw[hbd]at HR;have HS:=da (show fb=(((k0&& Hd nm)&& decide (1<=c))&& decide (c<=6)) by rw[HR.out];rfl);clear HR Mt hbd;cases a1:Hd nm<;>cases a2:decide (1<=c)<;>cases a3:decide (c<=6)<;>rcases hk with⟨d1,e1,d2,e2,d3,e3⟩ | ⟨d1,e1,d2,e2,d3,e3⟩ | ⟨d1,e1,d2,e2,d3,e3⟩
    all_goals
     subst e1;rw[a1,a2,a3]at HS;have C:=fun w=>CN _ a1 w
     clear a1 CN;go_wp2_with (go_at_call 154;refine(C _).out.mono ?_;rintro e w2 ⟨rfl,rfl⟩);go_ret;exact⟨Oa HS.out.symm,HB.out⟩
   by_cases o4:op=4
   ·subst o4
    have hbd:bd=((c !=0) || (n !=0)):=by rw[Mt.out];simp
    have HS:=da (show fb=if bd then false else(k0&& Hd nm) by rw[HR.out];rfl);clear HR Mt;cases a1:Hd nm<;>cases a2:(c==0)<;>cases a3:(n==0)<;>rcases hk with⟨d1,e1,d2,e2,d3,e3⟩ | ⟨d1,e1,d2,e2,d3,e3⟩ | ⟨d1,e1,d2,e2,d3,e3⟩
    all_goals
     subst e1;have a4:(c !=0)= !(c==0):=rfl;have a5:(n !=0)= !(n==0):=rfl;rw[a2]at a4;rw[a3]at a5;rw[a4,a5]at hbd;rw[hbd,a1]at HS;have C:=fun w=>CN _ a1 w
     clear a1 a4 a5 hbd CN;go_wp2_with (go_at_call 154;refine(C _).out.mono ?_;rintro e w2 ⟨rfl,rfl⟩);go_ret;exact⟨Oa HS.out.symm,HB.out⟩
   have hbd:=ud o3 o4;rw[hbd]at HR;clear ud hbd CN;by_cases o1:op=1
   ·subst o1
    have HS:=da (show fb=k0 by rw[HR.out];rfl);clear HR Mt;rcases hk with⟨d1,e1,d2,e2,d3,e3⟩ | ⟨d1,e1,d2,e2,d3,e3⟩ | ⟨d1,e1,d2,e2,d3,e3⟩
    all_goals
     subst e1;go_wp2;go_ret;exact⟨Oa HS.out.symm,HB.out⟩
   by_cases o2:op=2
   ·subst o2
    have HS:=da (show fb=k0 by rw[HR.out];rfl);clear HR Mt;rcases hk with⟨d1,e1,d2,e2,d3,e3⟩ | ⟨d1,e1,d2,e2,d3,e3⟩ | ⟨d1,e1,d2,e2,d3,e3⟩
    all_goals
     subst e1;go_wp2;go_ret;exact⟨Oa HS.out.symm,HB.out⟩
   by_cases o5:op=5
   ·subst o5
    have HS:=da (show fb=k1 by rw[HR.out];rfl);clear HR Mt;rcases hk with⟨d1,e1,d2,e2,d3,e3⟩ | ⟨d1,e1,d2,e2,d3,e3⟩ | ⟨d1,e1,d2,e2,d3,e3⟩
    all_goals
     subst e2;go_wp2;go_ret;exact⟨Oa HS.out.symm,HB.out⟩
   by_cases o6:op=6
   ·subst o6
    have HS:=da (show fb=k2 by rw[HR.out];rfl);clear HR Mt;rcases hk with⟨d1,e1,d2,e2,d3,e3⟩ | ⟨d1,e1,d2,e2,d3,e3⟩ | ⟨d1,e1,d2,e2,d3,e3⟩
    all_goals
     subst e3;go_wp2;go_ret;exact⟨Oa HS.out.symm,HB.out⟩
   by_cases o7:op=7
   ·subst o7
    have HS:=da (show fb=k2 by rw[HR.out];rfl);clear HR Mt;rcases hk with⟨d1,e1,d2,e2,d3,e3⟩ | ⟨d1,e1,d2,e2,d3,e3⟩ | ⟨d1,e1,d2,e2,d3,e3⟩
    all_goals
     subst e3;go_wp2;go_ret;exact⟨Oa HS.out.symm,HB.out⟩
   have HS:=da (show fb=false by rw[HR.out];simp[o1,o2,o3,o4,o5,o6,o7]);have p1:(op==1)=false:=by simpa using o1
   have p2:(op==2)=false:=by simpa using o2
   have p3:(op==3)=false:=by simpa using o3
   have p4:(op==4)=false:=by simpa using o4
   have p5:(op==5)=false:=by simpa using o5
   have p6:(op==6)=false:=by simpa using o6
   have p7:(op==7)=false:=by simpa using o7
   clear HR hk Mt o1 o2 o3 o4 o5 o6 o7;go_wp2;go_ret;exact⟨Oa HS.out.symm,HB.out⟩
  | false=>
   rw[cE]at vw
   have ud:op≠3->op≠4->bd=true:=fun a b=>by{rw[Mt.out,show(op !=3)=true by simpa using a,show(op !=4)=true by simpa using b];cases q1:nm.toList.isEmpty<;>cases q2:(c==0)<;>cases q3:(n==0)<;>simp only[q1,q2,q3,bne]at vw⊢ <;>first | rfl | (cases vw)}
   clear vw cE;by_cases o3:op=3
   ·subst o3
    have hbd:bd=false:=by rw[Mt.out];rfl
    rw[hbd]at HR;have HS:=da (show fb=(((k0&& Hd nm)&& decide (1<=c))&& decide (c<=6)) by rw[HR.out];rfl);clear HR Mt hbd;cases a1:Hd nm<;>cases a2:decide (1<=c)<;>cases a3:decide (c<=6)<;>rcases hk with⟨d1,e1,d2,e2,d3,e3⟩ | ⟨d1,e1,d2,e2,d3,e3⟩ | ⟨d1,e1,d2,e2,d3,e3⟩
    all_goals
     subst e1;rw[a1,a2,a3]at HS;have C:=fun w=>CN _ a1 w
     clear a1 CN;go_wp2_with (go_at_call 154;refine(C _).out.mono ?_;rintro e w2 ⟨rfl,rfl⟩);go_ret;exact⟨Oa HS.out.symm,HB.out⟩
   by_cases o4:op=4
   ·subst o4
    have hbd:bd=((c !=0) || (n !=0)):=by rw[Mt.out];simp
    have HS:=da (show fb=if bd then false else(k0&& Hd nm) by rw[HR.out];rfl);clear HR Mt;cases a1:Hd nm<;>cases a2:(c==0)<;>cases a3:(n==0)<;>rcases hk with⟨d1,e1,d2,e2,d3,e3⟩ | ⟨d1,e1,d2,e2,d3,e3⟩ | ⟨d1,e1,d2,e2,d3,e3⟩
    all_goals
     subst e1;have a4:(c !=0)= !(c==0):=rfl;have a5:(n !=0)= !(n==0):=rfl;rw[a2]at a4;rw[a3]at a5;rw[a4,a5]at hbd;rw[hbd,a1]at HS;have C:=fun w=>CN _ a1 w
     clear a1 a4 a5 hbd CN;go_wp2_with (go_at_call 154;refine(C _).out.mono ?_;rintro e w2 ⟨rfl,rfl⟩);go_ret;exact⟨Oa HS.out.symm,HB.out⟩
   have hbd:=ud o3 o4;rw[hbd]at HR;clear ud hbd CN;by_cases o1:op=1
   {subst o1;have HS:=da (show fb=false by rw[HR.out];rfl);clear HR Mt hk;go_wp2;go_ret;exact⟨Oa HS.out.symm,HB.out⟩}
   by_cases o2:op=2
   {subst o2;have HS:=da (show fb=false by rw[HR.out];rfl);clear HR Mt hk;go_wp2;go_ret;exact⟨Oa HS.out.symm,HB.out⟩}
   by_cases o5:op=5
   {subst o5;have HS:=da (show fb=false by rw[HR.out];rfl);clear HR Mt hk;go_wp2;go_ret;exact⟨Oa HS.out.symm,HB.out⟩}
   by_cases o6:op=6
   {subst o6;have HS:=da (show fb=false by rw[HR.out];rfl);clear HR Mt hk;go_wp2;go_ret;exact⟨Oa HS.out.symm,HB.out⟩}
   by_cases o7:op=7
   {subst o7;have HS:=da (show fb=false by rw[HR.out];rfl);clear HR Mt hk;go_wp2;go_ret;exact⟨Oa HS.out.symm,HB.out⟩}
   have HS:=da (show fb=false by rw[HR.out];rfl);have p1:(op==1)=false:=by simpa using o1
   have p2:(op==2)=false:=by simpa using o2
   have p3:(op==3)=false:=by simpa using o3
   have p4:(op==4)=false:=by simpa using o4
   have p5:(op==5)=false:=by simpa using o5
   have p6:(op==6)=false:=by simpa using o6
   have p7:(op==7)=false:=by simpa using o7
   clear HR hk Mt o1 o2 o3 o4 o5 o6 o7;go_wp2;go_ret;exact⟨Oa HS.out.symm,HB.out⟩
theorem Fu (d:List Fa)(v:Value)(w:World)(B:Nat)(hB:B<=w.heap.size)(hd:bf w B d v):
  Calls Tryz.prog 65 #[v] w fun e w'=>e=.returned (.bool (Hf d))/\ Below w.heap.size w w':=by
 have N9:=hd;obtain⟨u,rfl,hd⟩:=hd;obtain⟨ad,cd,rfl,d1,d2,_⟩:=Xa.shape hd;unfold maxLen at d2;have HD:=da hd;have Ff:Below w.heap.size w (w.alloc (.cells #[.slice ad d.length cd] 27)):=(za _ _).alloc (ja _) _;have x0:(w.alloc (.cells #[.slice ad d.length cd] 27)).cell? ⟨w.heap.size,0,none⟩=some (.slice ad d.length cd):=(Bb.new w 27 _).cell 0;have HR:Hid (Hf d=(oo d d.length&& decide (d.length<=60))):=qC d;have HF:Hid (∀k (h:k<d.length),BR d d[k] k=false->Hf d=false):=fun k h e=>by rw[qC,uD h e];rfl
 have acd:=da (fun s W (hb:Below w.heap.size w W)=>yA d s _ W B (Wa hB hb.size) (N9.below (hb.mono hB)));have HB:=da Ff;generalize Hf d=R at*
 clear hd N9 Ff;go_enter Tryz.func65,Tryz.ntmps65;go_wp2
 go_loopw [3] (fun i wr=>∃k:Nat,k<=d.length/\ i=.int .i64 k/\ Hid (oo d k=true)/\ Hid (Below w.heap.size w wr)/\ w.heap.size<wr.heap.size/\ wr.cell? ⟨w.heap.size,0,none⟩=some (.slice ad d.length cd)) (fun i _=>d.length-(intOf i).toNat)
 case atStart=>exact⟨0,ia,rfl,rfl,HB,la,x0⟩
 case round=>
  obtain⟨k,hk,rfl,hin,Zd,hsz,hc0⟩:=hrel;clear x0;by_cases hlt:k<d.length
  ·obtain⟨b,off,rfl,Rj,f0,f1,f2,f3,hz,wk,wl,wh⟩:=Xa.at (HD.out.below Iw.kept (Zd.out.mono hB)) k hlt
   have hno:=HF.out k hlt;have lG:BR d d[k] k=true->oo d (k+1)=true:=fun h=>by rw[rG d k hlt,hin.out,h];rfl
   have eM:=da (acd.out d[k].name);generalize d[k]=f at*
   have X5:BR d f k=(Hd f.name&& (tg d f.name==(k:Int))&& decide (0<=f.lo)&& decide (f.lo<=f.hi)&& decide (f.hi<=1000000)&& (decide (1<=f.kind)&& decide (f.kind<=3))&& !((f.kind==1)&& ((f.lo !=0) || (f.hi !=1)))):=rfl;have hbf:Below w.heap.size w (wr.alloc (.cells #[.string f.name,.int .i64 f.kind,.int .i64 f.lo,.int .i64 f.hi] 83)):=Zd.out.alloc ia _;have K:=Bb.new wr 83 #[.string f.name,.int .i64 f.kind,.int .i64 f.lo,.int .i64 f.hi];have y0:=K.cell 0;have y1:=K.cell 1;have y2:=K.cell 2;have y3:=K.cell 3;have yc:=(((za wr.heap.size wr).alloc (ja _) (.cells #[.string f.name,.int .i64 f.kind,.int .i64 f.lo,.int .i64 f.hi] 83)).cell (p:=⟨w.heap.size,0,none⟩) hsz).trans hc0;have jt:=da hbf;have yD:=da X5;have bR:=da hno;have ace:=da lG;have k0:(0:Int)<=(k:Int):=Ab _;have k1:(k:Int)<(d.length:Int):=by omega
   generalize BR d f k=ok at*
   clear hno lG X5 hbf K hin;cases c1:Hd f.name with
   | false=>{have HS:=da (bR.out (by rw[yD.out,c1];rfl));go_wp2_with (go_at_call 109;refine(Bi f.name _ hz _ c1).mono ?_;rintro e w2 ⟨rfl,rfl⟩);go_ret;exact⟨Oa HS.out.symm,jt.out⟩}
   | true=>
    generalize Dv:tg d f.name=ix at*
    by_cases c2:ix=(k:Int)
    ·subst c2
     by_cases c3:f.lo<0
     ·have g3:decide (f.lo<0)=true:=Ma c3
      have HS:=da (bR.out (by rw[yD.out,Ia (show ¬0<=f.lo by omega)];simp))
      go_wp2_with (first
       | (go_at_call 109;refine(Bi f.name _ hz _ c1).mono ?_;rintro e w2 ⟨rfl,rfl⟩)
       | (go_at_call 110;refine(eM.out _ jt.out).mono ?_;rintro e w3 ⟨rfl,Lc⟩;have z0:=(Lc.cell (p:=⟨wr.heap.size,0,none⟩) la).trans y0;have z1:=(Lc.cell (p:=⟨wr.heap.size,1,none⟩) la).trans y1;have z2:=(Lc.cell (p:=⟨wr.heap.size,2,none⟩) la).trans y2;have z3:=(Lc.cell (p:=⟨wr.heap.size,3,none⟩) la).trans y3;have zc:=(Lc.cell (p:=⟨w.heap.size,0,none⟩) (by simp;omega)).trans yc;have Qc:=da (jt.out.trans (Lc.mono (by simp;omega)));have Ym:=Lc.size;simp only[Ba]at Ym;clear Lc y0 y1 y2 y3 yc))
      go_ret;exact⟨Oa HS.out.symm,Qc.out⟩
     have g3:decide (f.lo<0)=false:=Ia c3;by_cases c4:f.hi<f.lo
     ·have g4:decide (f.hi<f.lo)=true:=Ma c4
      have HS:=da (bR.out (by rw[yD.out,Ia (show ¬f.lo<=f.hi by omega)];simp));clear c3
      go_wp2_with (first
       | (go_at_call 109;refine(Bi f.name _ hz _ c1).mono ?_;rintro e w2 ⟨rfl,rfl⟩)
       | (go_at_call 110;refine(eM.out _ jt.out).mono ?_;rintro e w3 ⟨rfl,Lc⟩;have z0:=(Lc.cell (p:=⟨wr.heap.size,0,none⟩) la).trans y0;have z1:=(Lc.cell (p:=⟨wr.heap.size,1,none⟩) la).trans y1;have z2:=(Lc.cell (p:=⟨wr.heap.size,2,none⟩) la).trans y2;have z3:=(Lc.cell (p:=⟨wr.heap.size,3,none⟩) la).trans y3;have zc:=(Lc.cell (p:=⟨w.heap.size,0,none⟩) (by simp;omega)).trans yc;have Qc:=da (jt.out.trans (Lc.mono (by simp;omega)));have Ym:=Lc.size;simp only[Ba]at Ym;clear Lc y0 y1 y2 y3 yc))
      go_ret;exact⟨Oa HS.out.symm,Qc.out⟩
     have g4:decide (f.hi<f.lo)=false:=Ia c4;by_cases c5:1000000<f.hi
     ·have g5:decide (1000000<f.hi)=true:=Ma c5
      have HS:=da (bR.out (by rw[yD.out,Ia (show ¬f.hi<=1000000 by omega)];simp));clear c3 c4
      go_wp2_with (first
       | (go_at_call 109;refine(Bi f.name _ hz _ c1).mono ?_;rintro e w2 ⟨rfl,rfl⟩)
       | (go_at_call 110;refine(eM.out _ jt.out).mono ?_;rintro e w3 ⟨rfl,Lc⟩;have z0:=(Lc.cell (p:=⟨wr.heap.size,0,none⟩) la).trans y0;have z1:=(Lc.cell (p:=⟨wr.heap.size,1,none⟩) la).trans y1;have z2:=(Lc.cell (p:=⟨wr.heap.size,2,none⟩) la).trans y2;have z3:=(Lc.cell (p:=⟨wr.heap.size,3,none⟩) la).trans y3;have zc:=(Lc.cell (p:=⟨w.heap.size,0,none⟩) (by simp;omega)).trans yc;have Qc:=da (jt.out.trans (Lc.mono (by simp;omega)));have Ym:=Lc.size;simp only[Ba]at Ym;clear Lc y0 y1 y2 y3 yc))
      go_ret;exact⟨Oa HS.out.symm,Qc.out⟩
     have g5:decide (1000000<f.hi)=false:=Ia c5;by_cases c6:f.kind<1
     ·have g6:decide (f.kind<1)=true:=Ma c6
      have HS:=da (bR.out (by rw[yD.out,Ia (show ¬1<=f.kind by omega)];simp));clear c3 c4 c5
      go_wp2_with (first
       | (go_at_call 109;refine(Bi f.name _ hz _ c1).mono ?_;rintro e w2 ⟨rfl,rfl⟩)
       | (go_at_call 110;refine(eM.out _ jt.out).mono ?_;rintro e w3 ⟨rfl,Lc⟩;have z0:=(Lc.cell (p:=⟨wr.heap.size,0,none⟩) la).trans y0;have z1:=(Lc.cell (p:=⟨wr.heap.size,1,none⟩) la).trans y1;have z2:=(Lc.cell (p:=⟨wr.heap.size,2,none⟩) la).trans y2;have z3:=(Lc.cell (p:=⟨wr.heap.size,3,none⟩) la).trans y3;have zc:=(Lc.cell (p:=⟨w.heap.size,0,none⟩) (by simp;omega)).trans yc;have Qc:=da (jt.out.trans (Lc.mono (by simp;omega)));have Ym:=Lc.size;simp only[Ba]at Ym;clear Lc y0 y1 y2 y3 yc))
      go_ret;exact⟨Oa HS.out.symm,Qc.out⟩
     have g6:decide (f.kind<1)=false:=Ia c6;by_cases c7:3<f.kind
     ·have g7:decide (3<f.kind)=true:=Ma c7
      have HS:=da (bR.out (by rw[yD.out,Ia (show ¬f.kind<=3 by omega)];simp));clear c3 c4 c5 c6
      go_wp2_with (first
       | (go_at_call 109;refine(Bi f.name _ hz _ c1).mono ?_;rintro e w2 ⟨rfl,rfl⟩)
       | (go_at_call 110;refine(eM.out _ jt.out).mono ?_;rintro e w3 ⟨rfl,Lc⟩;have z0:=(Lc.cell (p:=⟨wr.heap.size,0,none⟩) la).trans y0;have z1:=(Lc.cell (p:=⟨wr.heap.size,1,none⟩) la).trans y1;have z2:=(Lc.cell (p:=⟨wr.heap.size,2,none⟩) la).trans y2;have z3:=(Lc.cell (p:=⟨wr.heap.size,3,none⟩) la).trans y3;have zc:=(Lc.cell (p:=⟨w.heap.size,0,none⟩) (by simp;omega)).trans yc;have Qc:=da (jt.out.trans (Lc.mono (by simp;omega)));have Ym:=Lc.size;simp only[Ba]at Ym;clear Lc y0 y1 y2 y3 yc))
      go_ret;exact⟨Oa HS.out.symm,Qc.out⟩
     have g7:decide (3<f.kind)=false:=Ia c7
     have PI:ok= !((f.kind==1)&& ((f.lo !=0) || (f.hi !=1))):=by{rw[yD.out,c1,Ma (show 0<=f.lo by omega),Ma (show f.lo<=f.hi by omega),Ma (show f.hi<=1000000 by omega),Ma (show 1<=f.kind by omega),Ma (show f.kind<=3 by omega)];simp}
     clear c3 c4 c5 c6 c7 yD;cases a1:(f.kind==1)<;>cases a2:(f.lo !=0)<;>cases a3:(f.hi !=1)
     all_goals
      rw[a1,a2,a3]at PI;have Y5:=da PI;clear PI
      go_wp2_with (first
       | (go_at_call 109;refine(Bi f.name _ hz _ c1).mono ?_;rintro e w2 ⟨rfl,rfl⟩)
       | (go_at_call 110;refine(eM.out _ jt.out).mono ?_;rintro e w3 ⟨rfl,Lc⟩;have z0:=(Lc.cell (p:=⟨wr.heap.size,0,none⟩) la).trans y0;have z1:=(Lc.cell (p:=⟨wr.heap.size,1,none⟩) la).trans y1;have z2:=(Lc.cell (p:=⟨wr.heap.size,2,none⟩) la).trans y2;have z3:=(Lc.cell (p:=⟨wr.heap.size,3,none⟩) la).trans y3;have zc:=(Lc.cell (p:=⟨w.heap.size,0,none⟩) (by simp;omega)).trans yc;have Qc:=da (jt.out.trans (Lc.mono (by simp;omega)));have Ym:=Lc.size;simp only[Ba]at Ym;clear Lc y0 y1 y2 y3 yc))
      first
      | (go_ret;exact⟨Oa (bR.out Y5.out).symm,Qc.out⟩)
      | (go_roundw;(case rel=>exact⟨k+1,ia,by go_num,ace.out Y5.out,Qc,ia,zc⟩);(case measure=>simp[intOf];omega))
    ·have g2:(ix !=(k:Int))=true:=by rw[bne_iff_ne];exact c2
     have HS:=da (bR.out (by rw[yD.out,show(ix==(k:Int))=false from beq_eq_false_iff_ne.2 c2];simp));clear c2
     go_wp2_with (first
      | (go_at_call 109;refine(Bi f.name _ hz _ c1).mono ?_;rintro e w2 ⟨rfl,rfl⟩)
      | (go_at_call 110;refine(eM.out _ jt.out).mono ?_;rintro e w3 ⟨rfl,Lc⟩;have z0:=(Lc.cell (p:=⟨wr.heap.size,0,none⟩) la).trans y0;have z1:=(Lc.cell (p:=⟨wr.heap.size,1,none⟩) la).trans y1;have z2:=(Lc.cell (p:=⟨wr.heap.size,2,none⟩) la).trans y2;have z3:=(Lc.cell (p:=⟨wr.heap.size,3,none⟩) la).trans y3;have zc:=(Lc.cell (p:=⟨w.heap.size,0,none⟩) (by simp;omega)).trans yc;have Qc:=da (jt.out.trans (Lc.mono (by simp;omega)));have Ym:=Lc.size;simp only[Ba]at Ym;clear Lc y0 y1 y2 y3 yc))
     go_ret;exact⟨Oa HS.out.symm,Qc.out⟩
  {have HS:=da (show R=decide (d.length<=60) by rw[HR.out,show d.length=k by omega,hin.out,Ge]);clear hin;by_cases IX:d.length<=60;{(have JX:(d.length:Int)<=60:=ia);rw[Ma IX]at HS;go_wp2;go_ret;exact⟨Oa HS.out.symm,Zd.out⟩};{have JX:decide ((d.length:Int)<=60)=false:=Ia ia;rw[Ia IX]at HS;clear IX;go_wp2;go_ret;exact⟨Oa HS.out.symm,Zd.out⟩}}
open Go.RowKit
def N6 (W:World)(H:Nat)(v0 v1 v2 v3 v4 u:Value):Prop:=
 W.cell? ⟨H,0,none⟩=some v0/\ W.cell? ⟨H,1,none⟩=some v1/\ W.cell? ⟨H,2,none⟩=some v2/\ W.cell? ⟨H,3,none⟩=some v3/\ W.cell? ⟨H,4,none⟩=some v4/\ W.cell? ⟨H+1,0,none⟩=some u
theorem Dh {W W':World}{B H:Nat}{v0 v1 v2 v3 v4 u:Value}(h:N6 W H v0 v1 v2 v3 v4 u)(hb:Below B W W')(hB:H+1<B):N6 W' H v0 v1 v2 v3 v4 u:=by
 obtain⟨h0,h1,h2,h3,h4,h5⟩:=h;exact⟨(hb.cell (p:=⟨H,0,none⟩) (by show H<B;omega)).trans h0,(hb.cell (p:=⟨H,1,none⟩) (by show H<B;omega)).trans h1,(hb.cell (p:=⟨H,2,none⟩) (by show H<B;omega)).trans h2,(hb.cell (p:=⟨H,3,none⟩) (by show H<B;omega)).trans h3,(hb.cell (p:=⟨H,4,none⟩) (by show H<B;omega)).trans h4,(hb.cell (p:=⟨H+1,0,none⟩) hB).trans h5⟩
theorem uG (d:List Fa)(N:Nat):∀(f:Fo) (v u:Value) (w:World) (B:Nat),f.size<=N->B<=w.heap.size->f.In w B v->bf w B d u->
  Calls Tryz.prog 112 #[v,u,.slice none 0 0,.bool false] w fun e w'=>e=.returned (.int .i64 (gd d (fun _=>false) (qf f)))/\ Below w.heap.size w w':=by
 induction N with
 | zero=>intro f _ _ _ _ h;have:=f.size_pos;omega
 | succ N ih=>
 intro f v u w B hN hB hf hd;have IH:=da ih;clear ih;have CO:=da hf;have fV:=da hd;obtain⟨op,nm,c,n,ks⟩:=f;obtain⟨du,rfl,uq⟩:=hd;obtain⟨ad,cd,rfl,d1,d2,_⟩:=Xa.shape uq;obtain⟨ao,cap,rfl,_,_,_,_,h5,h6,h7⟩:=hf;unfold maxLen at h6;have H7:=da h7;have ud:Below w.heap.size w ((w.alloc (.cells #[.int .i64 op,.string nm,.int .i64 c,.int .i64 n,.slice ao ks.length cap] 24)).alloc (.cells #[.slice ad d.length cd] 27)):=((za _ _).alloc (ja _) _).alloc la _;have K0:=(Bb.new w 24 #[.int .i64 op,.string nm,.int .i64 c,.int .i64 n,.slice ao ks.length cap]).below ((za _ _).alloc (ja _) (.cells #[.slice ad d.length cd] 27));have K1:Bb ((w.alloc (.cells #[.int .i64 op,.string nm,.int .i64 c,.int .i64 n,.slice ao ks.length cap] 24)).alloc (.cells #[.slice ad d.length cd] 27)) (w.heap.size+1) 27 #[.slice ad d.length cd]:=by have h:=Bb.new (w.alloc (.cells #[.int .i64 op,.string nm,.int .i64 c,.int .i64 n,.slice ao ks.length cap] 24)) 27 #[.slice ad d.length cd];simp only[Ba]at h;exact h
 have HX:Hid (N6 ((w.alloc (.cells #[.int .i64 op,.string nm,.int .i64 c,.int .i64 n,.slice ao ks.length cap] 24)).alloc (.cells #[.slice ad d.length cd] 27)) w.heap.size (.int .i64 op) (.string nm) (.int .i64 c) (.int .i64 n) (.slice ao ks.length cap) (.slice ad d.length cd)):=⟨K0.cell 0,K0.cell 1,K0.cell 2,K0.cell 3,K0.cell 4,K1.cell 0⟩;have Vd:=da ud;have HR:Hid (gd d (fun _=>false) (qf (.mk op nm c n ks))=if Le d (fun _=>false) (.mk op nm c n ks)=0 then Xi d (fun _=>false) ks else Le d (fun _=>false) (.mk op nm c n ks)):=gQ d _ op nm c n ks;have HE:Hid (Le d (fun _=>false) (.mk op nm c n ks)=if Gg (.mk op nm c n ks)=false then 1 else if op=3/\ (n<0\/1000000<n)then 10 else if(op=3/\ tg d nm<0)\/(op=4/\ false=false)then 7 else 0):=rfl;have MT:=fun fb (NG:Gg (.mk op nm c n ks)=fb)=>da (fun W (hb:Below w.heap.size w W)=>zA (.mk op nm c n ks) _ W B (Fo.In.below (hb.mono hB) _ _ CO.out) fb NG)
 have eM:=da (fun W (hb:Below w.heap.size w W)=>Ps d nm _ W B (Wa hB hb.size) (fV.out.below (hb.mono hB)));have RG:Fo.Tc ks<=N:=by rw[Fo.size]at hN;omega
 obtain⟨x0,x1,x2,x3,x4,xd⟩:=HX.out;generalize gd d (fun _=>false) (qf (.mk op nm c n ks))=R at*
 generalize Le d (fun _=>false) (.mk op nm c n ks)=E at*
 generalize tg d nm=ix at*
 clear hN uq h7 ud K0 K1 CO;cases uZ:Gg (.mk op nm c n ks)with
 | false=>{have yC:=MT false uZ;have HS:=da (show R=1 by rw[HR.out,HE.out,if_pos uZ];rfl);clear uZ MT HR HE;go_enter Tryz.func112,Tryz.ntmps112;go_wp2_with (go_at_call 132;refine(yC.out _ Vd.out).mono ?_;rintro e w3 ⟨rfl,Lc⟩;obtain⟨y0,y1,y2,y3,y4,yd⟩:=Dh HX.out Lc la;have nA:=da (Dh HX.out Lc la);have Qc:=da (Vd.out.trans (Lc.mono (by simp;omega)));have Ym:=Lc.size;simp only[Ba]at Ym;clear Lc x0 x1 x2 x3 x4 xd);go_ret;exact⟨ke HS.out.symm,Qc.out⟩}
 | true=>
  have yC:=MT true uZ
  have UG:Hid (E=if op=3/\ (n<0\/1000000<n)then 10 else if(op=3/\ ix<0)\/(op=4/\ false=false)then 7 else 0):=by{show _=_;rw[HE.out,Aa (by rw[uZ];decide)]}
  clear uZ MT HE;by_cases o3:op=3
  ·subst o3
   by_cases n1:n<0
   {have g1:decide (n<0)=true:=Ma n1;have HS:=da (show R=10 by have hE:E=10:=(by rw[UG.out,if_pos ⟨rfl,.inl n1⟩]);rw[HR.out,hE,Aa pa]);clear HR UG n1;go_enter Tryz.func112,Tryz.ntmps112;go_wp2_with (go_at_call 132;refine(yC.out _ Vd.out).mono ?_;rintro e w3 ⟨rfl,Lc⟩;obtain⟨y0,y1,y2,y3,y4,yd⟩:=Dh HX.out Lc la;have nA:=da (Dh HX.out Lc la);have Qc:=da (Vd.out.trans (Lc.mono (by simp;omega)));have Ym:=Lc.size;simp only[Ba]at Ym;clear Lc x0 x1 x2 x3 x4 xd);go_ret;exact⟨ke HS.out.symm,Qc.out⟩}
   have g1:decide (n<0)=false:=Ia n1;by_cases n2:1000000<n
   {have g2:decide (1000000<n)=true:=Ma n2;have HS:=da (show R=10 by have hE:E=10:=(by rw[UG.out,if_pos ⟨rfl,.inr n2⟩]);rw[HR.out,hE,Aa pa]);clear HR UG n1 n2;go_enter Tryz.func112,Tryz.ntmps112;go_wp2_with (go_at_call 132;refine(yC.out _ Vd.out).mono ?_;rintro e w3 ⟨rfl,Lc⟩;obtain⟨y0,y1,y2,y3,y4,yd⟩:=Dh HX.out Lc la;have nA:=da (Dh HX.out Lc la);have Qc:=da (Vd.out.trans (Lc.mono (by simp;omega)));have Ym:=Lc.size;simp only[Ba]at Ym;clear Lc x0 x1 x2 x3 x4 xd);go_ret;exact⟨ke HS.out.symm,Qc.out⟩}
   have g2:decide (1000000<n)=false:=Ia n2;by_cases i1:ix<0
   ·have g3:decide (ix<0)=true:=Ma i1
    have HS:=da (show R=7 by have hE:E=7:=(by rw[UG.out,Aa (fun h=>h.2.elim n1 n2),if_pos (.inl ⟨rfl,i1⟩)]);rw[HR.out,hE,Aa pa]);clear HR UG n1 n2 i1;go_enter Tryz.func112,Tryz.ntmps112
    go_wp2_with (first
     | (go_at_call 132;refine(yC.out _ Vd.out).mono ?_;rintro e w3 ⟨rfl,Lc⟩;obtain⟨y0,y1,y2,y3,y4,yd⟩:=Dh HX.out Lc la;have nA:=da (Dh HX.out Lc la);have Qc:=da (Vd.out.trans (Lc.mono (by simp;omega)));have Ym:=Lc.size;simp only[Ba]at Ym;clear Lc x0 x1 x2 x3 x4 xd)
     | (go_at_call 133;refine(eM.out _ Qc.out).mono ?_;rintro e w4 ⟨rfl,hb4⟩;obtain⟨z0,z1,z2,z3,z4,zd⟩:=Dh nA.out hb4 ia;have HX4:=da (Dh nA.out hb4 ia);have Oe:=da (Qc.out.trans (hb4.mono ia));have hz4:=hb4.size;clear hb4 y0 y1 y2 y3 y4 yd))
    go_ret;exact⟨ke HS.out.symm,Oe.out⟩
   have g3:decide (ix<0)=false:=Ia i1
   have HS:=da (show R=Xi d (fun _=>false) (ks.drop 0) by
    have hE:E=0:=(by rw[UG.out,Aa (fun h=>h.2.elim n1 n2),Aa (fun h=>h.elim (fun h=>i1 h.2) (fun h=>by cases h.1))])
    rw[HR.out,hE,if_pos rfl];rfl)
   clear HR UG n1 n2 i1;go_enter Tryz.func112,Tryz.ntmps112
   go_wp2_with (first
    | (go_at_call 132;refine(yC.out _ Vd.out).mono ?_;rintro e w3 ⟨rfl,Lc⟩;obtain⟨y0,y1,y2,y3,y4,yd⟩:=Dh HX.out Lc la;have nA:=da (Dh HX.out Lc la);have Qc:=da (Vd.out.trans (Lc.mono (by simp;omega)));have Ym:=Lc.size;simp only[Ba]at Ym;clear Lc x0 x1 x2 x3 x4 xd)
    | (go_at_call 133;refine(eM.out _ Qc.out).mono ?_;rintro e w4 ⟨rfl,hb4⟩;obtain⟨z0,z1,z2,z3,z4,zd⟩:=Dh nA.out hb4 ia;have HX4:=da (Dh nA.out hb4 ia);have Oe:=da (Qc.out.trans (hb4.mono ia));have hz4:=hb4.size;clear hb4 y0 y1 y2 y3 y4 yd))
   clear z0 z1 z2 z3 z4 zd;have gE:=HX4;have Ul:=Oe;have Z5:w.heap.size+1<w4.heap.size:=by omega
   go_loopw [9] (fun iv wr=>∃k:Nat,k<=ks.length/\ iv=.int .i64 k/\ Hid (R=Xi d (fun _=>false) (ks.drop k))/\ Hid (Below w.heap.size w wr)/\ w.heap.size+1<wr.heap.size/\ Hid (N6 wr w.heap.size (.int .i64 3) (.string nm) (.int .i64 c) (.int .i64 n) (.slice ao ks.length cap) (.slice ad d.length cd))) (fun iv _=>ks.length-(intOf iv).toNat)
   case atStart=>exact⟨0,xb _,rfl,HS,Ul,Z5,gE⟩
   case round=>
    obtain⟨k,hk,rfl,hin,Zd,hsz,zD⟩:=hrel;by_cases hlt:k<ks.length
    {obtain⟨b,off,rfl,Rj,hL⟩:=H7.out (by intro h;simp[h]at hlt);obtain⟨ka,kc,q0,q1,q2,q3,q4,gk⟩:=Fo.Qk.get ks off k hlt (Fo.Qk.below (Zd.out.mono hB) Rj ks off hL);have hsk:=Fo.fg ks k hlt;have ho:=Eu d (fun _=>false) ks k hlt;have ng:=hin.out;rw[ho]at ng;have CK:=da (IH.out ks[k] _ _ wr.drew B ia (Wa hB Zd.out.size) (Fo.In.below (World.Za _ _ 1) _ _ gk) (fV.out.below ((Zd.out.trans (World.Za _ _ 1)).mono hB)));have Kn:=da ng;have fM:=Zd;have NT:=zD;obtain⟨y0,y1,y2,y3,y4,yd⟩:=zD.out;have k0:(0:Int)<=(k:Int):=Ab _;(have k1:(k:Int)<(ks.length:Int):=ia);generalize ks[k]=x at*;generalize gd d (fun _=>false) (qf x)=ex at*;clear hin ng ho hL gk hsk Zd zD;by_cases hex:ex=0;{subst hex;have Hw:=da (show R=Xi d (fun _=>false) (ks.drop (k+1)) by rw[Kn.out,if_pos rfl]);clear Kn;go_wp2;refine wp_region_still_tail 8 Ca Ca ?_;simp only[Zc,ze,Kd,Sd];(iterate 8 still_step);refine wpStill_nil ?_;change wpList _ _ _ _ _ wr.drew;go_wp2_with (go_at_call 112;refine CK.out.mono ?_;rintro e w8 ⟨rfl,Vh⟩;have ei:=da (fM.out.trans (((World.Za wr.heap.size wr 1).trans Vh).mono ia));have bJ:=da (Dh NT.out ((World.Za wr.heap.size wr 1).trans Vh) hsz);have LO:=Vh.size;obtain⟨s0,s1,s2,s3,s4,sd⟩:=bJ.out;clear Vh);go_roundw;(case rel=>exact⟨k+1,ia,by go_num,Hw,ei,Wb hsz LO,bJ⟩);case measure=>simp[intOf];omega};{have Hw:=da (show R=ex by rw[Kn.out,Aa hex]);(have ge:(ex !=0)=true:=by simpa using hex);clear Kn hex;go_wp2;refine wp_region_still_tail 8 Ca Ca ?_;simp only[Zc,ze,Kd,Sd];(iterate 8 still_step);refine wpStill_nil ?_;change wpList _ _ _ _ _ wr.drew;go_wp2_with (go_at_call 112;refine CK.out.mono ?_;rintro e w8 ⟨rfl,Vh⟩;have ei:=da (fM.out.trans (((World.Za wr.heap.size wr 1).trans Vh).mono ia));clear Vh);go_ret;exact⟨ke Hw.out.symm,ei.out⟩}}
    ·have Hw:=da (show R=0 by
      have h0:=hin.out
      rw[Ta ia]at h0
      exact h0)
     obtain⟨y0,y1,y2,y3,y4,yd⟩:=zD.out;clear hin;go_wp2;go_ret;exact⟨ke Hw.out.symm,Zd.out⟩
  by_cases o4:op=4
  ·subst o4
   have HS:=da (show R=7 by have hE:E=7:=(by rw[UG.out,Aa (fun h=>by cases h.1),if_pos (.inr ⟨rfl,rfl⟩)]);rw[HR.out,hE,Aa pa]);clear HR UG;go_enter Tryz.func112,Tryz.ntmps112
   go_wp2_with (first
    | (go_at_call 132;refine(yC.out _ Vd.out).mono ?_;rintro e w3 ⟨rfl,Lc⟩;obtain⟨y0,y1,y2,y3,y4,yd⟩:=Dh HX.out Lc la;have nA:=da (Dh HX.out Lc la);have Qc:=da (Vd.out.trans (Lc.mono (by simp;omega)));have Ym:=Lc.size;simp only[Ba]at Ym;clear Lc x0 x1 x2 x3 x4 xd)
    | (go_at_call 113;refine(Pz _ _).mono ?_;rintro e w5 ⟨rfl,rfl⟩))
   go_ret;exact⟨ke HS.out.symm,Qc.out⟩
  have p3:(op==3)=false:=by simpa using o3
  have p4:(op==4)=false:=by simpa using o4
  have HS:=da (show R=Xi d (fun _=>false) (ks.drop 0) by
   have hE:E=0:=(by rw[UG.out,Aa (fun h=>o3 h.1),Aa (fun h=>h.elim (fun h=>o3 h.1) (fun h=>o4 h.1))])
   rw[HR.out,hE,if_pos rfl];rfl)
  clear HR UG o3 o4;go_enter Tryz.func112,Tryz.ntmps112;go_wp2_with (go_at_call 132;refine(yC.out _ Vd.out).mono ?_;rintro e w3 ⟨rfl,Lc⟩;obtain⟨y0,y1,y2,y3,y4,yd⟩:=Dh HX.out Lc la;have nA:=da (Dh HX.out Lc la);have Qc:=da (Vd.out.trans (Lc.mono (by simp;omega)));have Ym:=Lc.size;simp only[Ba]at Ym;clear Lc x0 x1 x2 x3 x4 xd);clear y0 y1 y2 y3 y4 yd;have gE:=nA;have Ul:=Qc;have Z5:w.heap.size+1<w3.heap.size:=by omega
  go_loopw [9] (fun iv wr=>∃k:Nat,k<=ks.length/\ iv=.int .i64 k/\ Hid (R=Xi d (fun _=>false) (ks.drop k))/\ Hid (Below w.heap.size w wr)/\ w.heap.size+1<wr.heap.size/\ Hid (N6 wr w.heap.size (.int .i64 op) (.string nm) (.int .i64 c) (.int .i64 n) (.slice ao ks.length cap) (.slice ad d.length cd))) (fun iv _=>ks.length-(intOf iv).toNat)
  case atStart=>exact⟨0,xb _,rfl,HS,Ul,Z5,gE⟩
  case round=>
   obtain⟨k,hk,rfl,hin,Zd,hsz,zD⟩:=hrel;by_cases hlt:k<ks.length
   {obtain⟨b,off,rfl,Rj,hL⟩:=H7.out (by intro h;simp[h]at hlt);obtain⟨ka,kc,q0,q1,q2,q3,q4,gk⟩:=Fo.Qk.get ks off k hlt (Fo.Qk.below (Zd.out.mono hB) Rj ks off hL);have hsk:=Fo.fg ks k hlt;have ho:=Eu d (fun _=>false) ks k hlt;have ng:=hin.out;rw[ho]at ng;have CK:=da (IH.out ks[k] _ _ wr.drew B ia (Wa hB Zd.out.size) (Fo.In.below (World.Za _ _ 1) _ _ gk) (fV.out.below ((Zd.out.trans (World.Za _ _ 1)).mono hB)));have Kn:=da ng;have fM:=Zd;have NT:=zD;obtain⟨y0,y1,y2,y3,y4,yd⟩:=zD.out;have k0:(0:Int)<=(k:Int):=Ab _;(have k1:(k:Int)<(ks.length:Int):=ia);generalize ks[k]=x at*;generalize gd d (fun _=>false) (qf x)=ex at*;clear hin ng ho hL gk hsk Zd zD;by_cases hex:ex=0;{subst hex;have Hw:=da (show R=Xi d (fun _=>false) (ks.drop (k+1)) by rw[Kn.out,if_pos rfl]);clear Kn;go_wp2;refine wp_region_still_tail 8 Ca Ca ?_;simp only[Zc,ze,Kd,Sd];(iterate 8 still_step);refine wpStill_nil ?_;change wpList _ _ _ _ _ wr.drew;go_wp2_with (go_at_call 112;refine CK.out.mono ?_;rintro e w8 ⟨rfl,Vh⟩;have ei:=da (fM.out.trans (((World.Za wr.heap.size wr 1).trans Vh).mono ia));have bJ:=da (Dh NT.out ((World.Za wr.heap.size wr 1).trans Vh) hsz);have LO:=Vh.size;obtain⟨s0,s1,s2,s3,s4,sd⟩:=bJ.out;clear Vh);go_roundw;(case rel=>exact⟨k+1,ia,by go_num,Hw,ei,Wb hsz LO,bJ⟩);case measure=>simp[intOf];omega};{have Hw:=da (show R=ex by rw[Kn.out,Aa hex]);(have ge:(ex !=0)=true:=by simpa using hex);clear Kn hex;go_wp2;refine wp_region_still_tail 8 Ca Ca ?_;simp only[Zc,ze,Kd,Sd];(iterate 8 still_step);refine wpStill_nil ?_;change wpList _ _ _ _ _ wr.drew;go_wp2_with (go_at_call 112;refine CK.out.mono ?_;rintro e w8 ⟨rfl,Vh⟩;have ei:=da (fM.out.trans (((World.Za wr.heap.size wr 1).trans Vh).mono ia));clear Vh);go_ret;exact⟨ke Hw.out.symm,ei.out⟩}}
   ·have Hw:=da (show R=0 by
     have h0:=hin.out
     rw[Ta ia]at h0
     exact h0)
    obtain⟨y0,y1,y2,y3,y4,yd⟩:=zD.out;clear hin;go_wp2;go_ret;exact⟨ke Hw.out.symm,Zd.out⟩
theorem BD (f:Fo)(d:List Fa)(v u:Value)(w:World)(B:Nat)(hM:f.size<=1000000)(hB:B<=w.heap.size)(hf:f.In w B v)(hd:bf w B d u):
  Calls Tryz.prog 66 #[v,u,.slice none 0 0] w fun e w'=>e=.returned (.int .i64 (Qe f d (fun _=>false)))/\ Below w.heap.size w w':=by
 have HF:=da hf;have HD:=da hd;obtain⟨ao,cap,rfl⟩:=hf.shape;obtain⟨du,rfl,uq⟩:=hd;obtain⟨ad,cd,rfl,d1,d2,_⟩:=Xa.shape uq;have ud:Below w.heap.size w ((w.alloc (.cells #[.int .i64 f.op,.string f.name,.int .i64 f.cmp,.int .i64 f.n,.slice ao f.kids.length cap] 24)).alloc (.cells #[.slice ad d.length cd] 27)):=((za _ _).alloc (ja _) _).alloc la _;have K0:=(Bb.new w 24 #[.int .i64 f.op,.string f.name,.int .i64 f.cmp,.int .i64 f.n,.slice ao f.kids.length cap]).below ((za _ _).alloc (ja _) (.cells #[.slice ad d.length cd] 27));have K1:Bb ((w.alloc (.cells #[.int .i64 f.op,.string f.name,.int .i64 f.cmp,.int .i64 f.n,.slice ao f.kids.length cap] 24)).alloc (.cells #[.slice ad d.length cd] 27)) (w.heap.size+1) 27 #[.slice ad d.length cd]:=by have h:=Bb.new (w.alloc (.cells #[.int .i64 f.op,.string f.name,.int .i64 f.cmp,.int .i64 f.n,.slice ao f.kids.length cap] 24)) 27 #[.slice ad d.length cd];simp only[Ba]at h;exact h
 have HX:Hid (N6 ((w.alloc (.cells #[.int .i64 f.op,.string f.name,.int .i64 f.cmp,.int .i64 f.n,.slice ao f.kids.length cap] 24)).alloc (.cells #[.slice ad d.length cd] 27)) w.heap.size (.int .i64 f.op) (.string f.name) (.int .i64 f.cmp) (.int .i64 f.n) (.slice ao f.kids.length cap) (.slice ad d.length cd)):=⟨K0.cell 0,K0.cell 1,K0.cell 2,K0.cell 3,K0.cell 4,K1.cell 0⟩;obtain⟨x0,x1,x2,x3,x4,xd⟩:=HX.out;have Vd:=da ud;have HR:Hid (Qe f d (fun _=>false)=if 200<f.size\/20<f.depth then 2 else gd d (fun _=>false) (qf f)):=rfl;have O9:Hid (Nz f=(decide (200<f.size) || decide (20<f.depth))):=rfl;have CL:=da (fun W (hb:Below w.heap.size w W)=>xD f _ W B hM (Wa hB hb.size) (Fo.In.below (hb.mono hB) _ _ HF.out));have CN:=da (fun W (hb:Below w.heap.size w W)=>uG d f.size f _ _ W B (ja _) (Wa hB hb.size) (Fo.In.below (hb.mono hB) _ _ HF.out) (HD.out.below (hb.mono hB)));generalize Qe f d (fun _=>false)=R at*
 generalize gd d (fun _=>false) (qf f)=E at*
 clear hf uq ud K0 K1;cases vZ:Nz f with
 | true=>
  rw[vZ]at CL
  have HS:=da (show R=2 by
   have h:=O9.out
   rw[vZ,eq_comm,li,decide_eq_true_eq,decide_eq_true_eq]at h
   rw[HR.out,if_pos h])
  clear vZ O9 HR;go_enter Tryz.func66,Tryz.ntmps66;go_wp2_with (go_at_call 111;refine(CL.out _ Vd.out).mono ?_;rintro e w3 ⟨rfl,Lc⟩;have Qc:=da (Vd.out.trans (Lc.mono (by simp;omega)));clear Lc);go_ret;exact⟨ke HS.out.symm,Qc.out⟩
 | false=>
  rw[vZ]at CL
  have HS:=da (show R=E by
   have h:=O9.out
   rw[vZ,eq_comm,Wh,decide_eq_false_iff_not,decide_eq_false_iff_not]at h
   rw[HR.out,Aa (fun h'=>h'.elim h.1 h.2)])
  clear vZ O9 HR;go_enter Tryz.func66,Tryz.ntmps66
  go_wp2_with (first
   | (go_at_call 111;refine(CL.out _ Vd.out).mono ?_;rintro e w3 ⟨rfl,Lc⟩;obtain⟨y0,y1,y2,y3,y4,yd⟩:=Dh HX.out Lc la;have Qc:=da (Vd.out.trans (Lc.mono (by simp;omega)));have Ym:=Lc.size;simp only[Ba]at Ym;clear Lc x0 x1 x2 x3 x4 xd)
   | (go_at_call 112;refine(CN.out _ Qc.out).mono ?_;rintro e w4 ⟨rfl,hb4⟩;have Oe:=da (Qc.out.trans (hb4.mono ia));clear hb4))
  go_ret;exact⟨ke HS.out.symm,Oe.out⟩
open Go.RowKit
theorem gM {d:List Fa}{kn:ByteArray->Bool}{nm:ByteArray}{c n:Int}{ks:List Fo}(h:Le d kn (.mk 2 nm c n ks)=0):ks=[]:=by
 unfold Le at h;by_cases hf:Gg (.mk 2 nm c n ks)=false
 {rw[if_pos hf]at h;cases h}
 {(have ht:Gg (.mk 2 nm c n ks)=true:=by simpa using hf);unfold Gg at ht;by_cases hb:eu (.mk 2 nm c n ks)=true;{rw[if_pos hb]at ht;cases ht};{rw[Aa hb,if_pos (.inr rfl),decide_eq_true_eq]at ht;exact List.length_eq_zero_iff.1 ht}}
theorem Yo {w:World}{b o:Nat}{v:Value}{o1 o2:Obj}(hb:b<w.heap.size)(h:w.cell? ⟨b,o,none⟩=some v):((w.alloc o1).alloc o2).cell? ⟨b,o,none⟩=some v:=
 ((((za w.heap.size w).alloc (ja _) o1).alloc la o2).cell (p:=⟨b,o,none⟩) hb).trans h
theorem ED (d:List Fa)(cs:List Int)(hcd:cs.length=d.length)(N:Nat):∀(f:Fo) (v u cv:Value) (w:World) (B:Nat),f.size<=N->Good d f->B<=w.heap.size->f.In w B v->bf w B d u->IntsIn w B cs cv->
  Calls Tryz.prog 115 #[v,u,cv,.slice none 0 0] w fun e w'=>e=.returned (.bool (um d cs [] f))/\ Below w.heap.size w w':=by
 induction N with
 | zero=>intro f _ _ _ _ _ h;have:=f.size_pos;omega
 | succ N ih=>
 intro f v u cv w B hN hg hB hf hd hc;have IH:=da ih;clear ih;have fV:=da hd;have aV:=da hc;have HG:=da hg;have HCD:=da hcd;obtain⟨op,nm,c,n,ks⟩:=f;obtain⟨du,rfl,uq⟩:=hd;obtain⟨ad,cd,rfl,d1,d2,_⟩:=Xa.shape uq;obtain⟨ac,cc,rfl,c1,c2,_⟩:=Xa.shape hc;obtain⟨ao,cap,rfl,_,_,_,_,h5,h6,h7⟩:=hf;unfold maxLen at h6 c2;have H7:=da h7;have ud:Below w.heap.size w ((w.alloc (.cells #[.int .i64 op,.string nm,.int .i64 c,.int .i64 n,.slice ao ks.length cap] 24)).alloc (.cells #[.slice ad d.length cd] 27)):=((za _ _).alloc (ja _) _).alloc la _;have K0:=(Bb.new w 24 #[.int .i64 op,.string nm,.int .i64 c,.int .i64 n,.slice ao ks.length cap]).below ((za _ _).alloc (ja _) (.cells #[.slice ad d.length cd] 27));have K1:Bb ((w.alloc (.cells #[.int .i64 op,.string nm,.int .i64 c,.int .i64 n,.slice ao ks.length cap] 24)).alloc (.cells #[.slice ad d.length cd] 27)) (w.heap.size+1) 27 #[.slice ad d.length cd]:=by have h:=Bb.new (w.alloc (.cells #[.int .i64 op,.string nm,.int .i64 c,.int .i64 n,.slice ao ks.length cap] 24)) 27 #[.slice ad d.length cd];simp only[Ba]at h;exact h
 have HX:Hid (N6 ((w.alloc (.cells #[.int .i64 op,.string nm,.int .i64 c,.int .i64 n,.slice ao ks.length cap] 24)).alloc (.cells #[.slice ad d.length cd] 27)) w.heap.size (.int .i64 op) (.string nm) (.int .i64 c) (.int .i64 n) (.slice ao ks.length cap) (.slice ad d.length cd)):=⟨K0.cell 0,K0.cell 1,K0.cell 2,K0.cell 3,K0.cell 4,K1.cell 0⟩;have Vd:=da ud
 have HV:Hid (um d cs [] (.mk op nm c n ks)=if op=3 then Il (cs.getD (tg d nm).toNat 0) c n else if op=4 then([]:List ByteArray).any fun x=>Ni nm x else if op=5 then !((py d cs [] ks).headD false)else if op=6 then(py d cs [] ks).all id
  else if op=7 then(py d cs [] ks).any id else op==1):=by show _=_;rw[um]
 have RG:Fo.Tc ks<=N:=by rw[Fo.size]at hN;omega
 have eM:=da (fun W (hb:Below w.heap.size w W)=>Ps d nm _ W B (Wa hB hb.size) (fV.out.below (hb.mono hB)));have UO:=UI (hg _ (Nq _));have xw:=hg _ (Nq _);generalize um d cs [] (.mk op nm c n ks)=R at*
 obtain⟨x0,x1,x2,x3,x4,xd⟩:=HX.out;clear hN hg uq hc h7 K0 K1 hcd;rcases UO with h1 | ⟨rfl,g1,g2,k,hk,BM⟩ | rfl | ⟨rfl,k,rfl⟩ | rfl | rfl
 {(rcases h1 with rfl | rfl);{have HS:=da (show R=true by rw[HV.out];rfl);clear HV xw;go_enter Tryz.func115,Tryz.ntmps115;go_wp2;go_ret;exact⟨Oa HS.out.symm,Vd.out⟩};{have HS:=da (show R=false by rw[HV.out];rfl);obtain rfl:=gM xw;clear HV xw;go_enter Tryz.func115,Tryz.ntmps115;go_wp2;go_loopw [10] (fun i wr=>i=.int .i64 0/\ wr=((w.alloc (.cells #[.int .i64 2,.string nm,.int .i64 c,.int .i64 n,.slice ao 0 cap] 24)).alloc (.cells #[.slice ad d.length cd] 27))) (fun i _=>0);(case atStart=>exact⟨rfl,rfl⟩);case round=>(obtain⟨rfl,iQ⟩:=hrel;subst iQ;go_wp2;go_ret;exact⟨Oa HS.out.symm,Vd.out⟩)}}
 {(have hkc:k<cs.length:=by have:=HCD.out;omega);obtain⟨bc,oc,rfl,ajB,hcc⟩:=Xa.one aV.out k hkc;have HS:Hid (R=Il cs[k] c n):=by{have h:=HV.out;rw[if_pos rfl,hk,Gb,Ra,Pa hkc]at h;exact h};rw[hk]at eM;(have xZ:bc<w.heap.size:=ia);have k0:(0:Int)<=(k:Int):=Ab _;(have k1:(k:Int)<(cs.length:Int):=ia);have j6:Below w.heap.size w ((w.alloc (.cells #[.int .i64 3,.string nm,.int .i64 c,.int .i64 n,.slice ao ks.length cap] 24)).alloc (.cells #[.slice ad d.length cd] 27)):=Vd.out;generalize cs[k]=ck at*;clear HV hk xw;go_enter Tryz.func115,Tryz.ntmps115;go_upto_region 5 with(fail);refine wp_region_held_drew (S:=(fun w':World=>Below (w.heap.size+1+1) ((w.alloc (.cells #[.int .i64 3,.string nm,.int .i64 c,.int .i64 n,.slice ao ks.length cap] 24)).alloc (.cells #[.slice ad d.length cd] 27)) w')) Ca (World.Za _ _ 1) (fun Xb=>?_);refine tp 0 ?_;refine tk 1 ?v1 ?y1 ?_;(case y1=>(intro w9 Pg;obtain⟨e0,e1,e2,e3,e4,ed⟩:=Dh HX.out Pg (jf _);have ec:=(Pg.cell (p:=⟨bc,oc+k,none⟩) (by show bc<_;omega)).trans (Yo xZ hcc);go_simp;try with_reducible rfl));refine tp 2 ?_;refine tk 3 ?v3 ?y3 ?_;(case y3=>(intro w9 Pg;obtain⟨e0,e1,e2,e3,e4,ed⟩:=Dh HX.out Pg (jf _);have ec:=(Pg.cell (p:=⟨bc,oc+k,none⟩) (by show bc<_;omega)).trans (Yo xZ hcc);go_simp;try with_reducible rfl));refine tp 7 ?_;refine tk 8 ?v8 ?y8 ?_;(case y8=>(intro w9 Pg;obtain⟨e0,e1,e2,e3,e4,ed⟩:=Dh HX.out Pg (jf _);have ec:=(Pg.cell (p:=⟨bc,oc+k,none⟩) (by show bc<_;omega)).trans (Yo xZ hcc);go_simp;try with_reducible rfl));refine tp 9 ?_;refine tk 10 ?v10 ?Wu ?_;(case Wu=>(intro w9 Pg;obtain⟨e0,e1,e2,e3,e4,ed⟩:=Dh HX.out Pg (jf _);have ec:=(Pg.cell (p:=⟨bc,oc+k,none⟩) (by show bc<_;omega)).trans (Yo xZ hcc);go_simp;try with_reducible rfl));refine tr 4 (fun K hK=>?_);(go_simp;go_at_call 133;refine(eM.out _ ((j6.trans (World.Za _ _ 1)))).mono ?_;rintro e w4 ⟨rfl,hb4⟩;have Oe:=da (((World.Za (w.heap.size+1+1) ((w.alloc (.cells #[.int .i64 3,.string nm,.int .i64 c,.int .i64 n,.slice ao ks.length cap] 24)).alloc (.cells #[.slice ad d.length cd] 27)) 1).trans (hb4.mono la)));clear hb4);refine hK.out _ _ ?_ (fun Xb=>?_);{exact Oe.out};clear hK K;(try simp only[Act.put,sA,sB,sC]);refine tk 5 ?v5 ?y5 ?_;(case y5=>(intro w9 Pg;obtain⟨e0,e1,e2,e3,e4,ed⟩:=Dh HX.out Pg (jf _);have ec:=(Pg.cell (p:=⟨bc,oc+k,none⟩) (by show bc<_;omega)).trans (Yo xZ hcc);go_simp;try with_reducible rfl));refine tk 6 ?v6 ?y6 ?_;(case y6=>(intro w9 Pg;obtain⟨e0,e1,e2,e3,e4,ed⟩:=Dh HX.out Pg (jf _);have ec:=(Pg.cell (p:=⟨bc,oc+k,none⟩) (by show bc<_;omega)).trans (Yo xZ hcc);go_simp;try with_reducible rfl));refine tr 11 (fun K hK=>?_);(go_simp;go_at_call 134;refine(Oz _ _ _ _ g1 g2).mono ?_;rintro e w5 ⟨rfl,rfl⟩);refine hK.out _ _ ?_ (fun Xb=>?_);{exact Oe.out};clear hK K;(try simp only[Act.put,sA,sB,sC]);refine tp 12 ?_;refine wpAnyH_done Ca ?_ _;go_wp2;go_ret;exact⟨Oa HS.out.symm,j6.trans (Oe.out.mono ia)⟩}
 {have HS:=da (show R=false by rw[HV.out];rfl);clear HV xw;go_enter Tryz.func115,Tryz.ntmps115;go_wp2_with (go_at_call 113;refine(Pz _ _).mono ?_;rintro e w5 ⟨rfl,rfl⟩);go_ret;exact⟨Oa HS.out.symm,Vd.out⟩}
 {obtain⟨b,off,rfl,Rj,hL⟩:=H7.out la;obtain⟨ka,kc,q0,q1,q2,q3,q4,gk⟩:=Fo.Qk.get [k] off 0 la (Fo.Qk.below (Vd.out.mono hB) Rj _ _ hL);simp only[Se,Ag,Ob]at q0 q1 q2 q3 q4 gk;(have hsk:k.size<=N:=by rw[Fo.Tc,Fo.Tc]at RG;omega);have HS:Hid (R= !um d cs [] k):=by{have h:=HV.out;rw[Aa pa,Aa pa,if_pos rfl,py]at h;exact h};have CK:=da (IH.out k _ _ _ (World.drew ((w.alloc (.cells #[.int .i64 5,.string nm,.int .i64 c,.int .i64 n,.slice (some ⟨b,off,none⟩) 1 cap] 24)).alloc (.cells #[.slice ad d.length cd] 27))) B hsk (HG.out.O5 la) (Wa hB Vd.out.size) (Fo.In.below (World.Za _ _ 1) _ _ gk) (fV.out.below ((Vd.out.trans (World.Za _ _ 1)).mono hB)) (aV.out.below ((Vd.out.trans (World.Za _ _ 1)).mono hB)));generalize um d cs [] k=vk at*;clear HV xw hL gk;go_enter Tryz.func115,Tryz.ntmps115;go_upto_region 9 with(fail);(have ajC:(((w.alloc (.cells #[.int .i64 5,.string nm,.int .i64 c,.int .i64 n,.slice (some ⟨b,off,none⟩) 1 cap] 24)).alloc (.cells #[.slice ad d.length cd] 27))).heap.size=w.heap.size+1+1:=la);simp only[ib,Cc,dc]at x0 x1 x2 x3 x4 xd q0 q1 q2 q3 q4 Vd HX;generalize((w.alloc (.cells #[.int .i64 5,.string nm,.int .i64 c,.int .i64 n,.slice (some ⟨b,off,none⟩) 1 cap] 24)).alloc (.cells #[.slice ad d.length cd] 27))=wb at*;refine wp_region_still_tail 7 Ca Ca ?_;simp only[Zc,ze,Kd,Sd];(iterate 7 still_step);refine wpStill_nil ?_;change wpList _ _ _ _ _ wb.drew;go_wp2_with (go_at_call 115;refine CK.out.mono ?_;rintro e w8 ⟨rfl,Vh⟩;have ei:=da (Vd.out.trans (((World.Za wb.heap.size wb 1).trans Vh).mono ia));clear Vh);go_ret;exact⟨Oa HS.out.symm,ei.out⟩}
 ·have HST:Hid (∀x∈ks,um d cs [] x=false->R=false):=fun x hx hv=>by
   rw[HV.out,Aa pa,Aa pa,Aa pa,if_pos rfl,Kr,List.all_map,List.all_eq_false];exact⟨x,hx,by simp[hv]⟩
  have IP:Hid (ks.all (fun x=>um d cs [] x==true)=true->R=true):=fun h=>by{rw[HV.out,Aa pa,Aa pa,Aa pa,if_pos rfl,Kr,List.all_map, <-h];congr 1;funext x;simp}
  clear HV xw;go_enter Tryz.func115,Tryz.ntmps115;go_wp2
  go_loopw [9] (fun iv wr=>∃k:Nat,k<=ks.length/\ iv=.int .i64 k/\ Hid ((ks.take k).all (fun x=>um d cs [] x==true)=true)/\ Hid (Below w.heap.size w wr)/\ w.heap.size+1<wr.heap.size/\ Hid (N6 wr w.heap.size (.int .i64 6) (.string nm) (.int .i64 c) (.int .i64 n) (.slice ao ks.length cap) (.slice ad d.length cd))) (fun iv _=>ks.length-(intOf iv).toNat)
  case atStart=>exact⟨0,xb _,rfl,rfl,Vd,la,HX⟩
  case round=>(obtain⟨k,hk,rfl,hin,Zd,hsz,zD⟩:=hrel;clear x0 x1 x2 x3 x4 xd;by_cases hlt:k<ks.length;{obtain⟨b,off,rfl,Rj,hL⟩:=H7.out (by intro h;simp[h]at hlt);obtain⟨ka,kc,q0,q1,q2,q3,q4,gk⟩:=Fo.Qk.get ks off k hlt (Fo.Qk.below (Zd.out.mono hB) Rj ks off hL);have hsk:=Fo.fg ks k hlt;have ho:=qG (fun x=>um d cs [] x==true) ks k hlt;rw[hin.out,Ge]at ho;have hst:=HST.out ks[k] (Ga hlt);have CK:=da (IH.out ks[k] _ _ _ wr.drew B ia (HG.out.O5 (Ga hlt)) (Wa hB Zd.out.size) (Fo.In.below (World.Za _ _ 1) _ _ gk) (fV.out.below ((Zd.out.trans (World.Za _ _ 1)).mono hB)) (aV.out.below ((Zd.out.trans (World.Za _ _ 1)).mono hB)));have HO:=da ho;have fM:=Zd;have NT:=zD;obtain⟨y0,y1,y2,y3,y4,yd⟩:=zD.out;have k0:(0:Int)<=(k:Int):=Ab _;(have k1:(k:Int)<(ks.length:Int):=ia);generalize ks[k]=x at*;clear hin ho hL gk hsk Zd zD;cases hv:um d cs [] x with| false=>{rw[hv]at CK;have Hw:=da (hst hv);clear hv hst HO;go_wp2;refine wp_region_still_tail 8 Ca Ca ?_;simp only[Zc,ze,Kd,Sd];(iterate 8 still_step);refine wpStill_nil ?_;change wpList _ _ _ _ _ wr.drew;go_wp2_with (go_at_call 115;refine CK.out.mono ?_;rintro e w8 ⟨rfl,Vh⟩;have ei:=da (fM.out.trans (((World.Za wr.heap.size wr 1).trans Vh).mono ia));have bJ:=da (Dh NT.out ((World.Za wr.heap.size wr 1).trans Vh) hsz);have LO:=Vh.size;obtain⟨s0,s1,s2,s3,s4,sd⟩:=bJ.out;clear Vh);go_ret;exact⟨Oa Hw.out.symm,ei.out⟩}| true=>{rw[hv]at CK HO;clear hv hst;go_wp2;refine wp_region_still_tail 8 Ca Ca ?_;simp only[Zc,ze,Kd,Sd];(iterate 8 still_step);refine wpStill_nil ?_;change wpList _ _ _ _ _ wr.drew;go_wp2_with (go_at_call 115;refine CK.out.mono ?_;rintro e w8 ⟨rfl,Vh⟩;have ei:=da (fM.out.trans (((World.Za wr.heap.size wr 1).trans Vh).mono ia));have bJ:=da (Dh NT.out ((World.Za wr.heap.size wr 1).trans Vh) hsz);have LO:=Vh.size;obtain⟨s0,s1,s2,s3,s4,sd⟩:=bJ.out;clear Vh);go_roundw;(case rel=>exact⟨k+1,ia,by go_num,HO.out.trans rfl,ei,Wb hsz LO,bJ⟩);case measure=>simp[intOf];omega}};{have Hw:=da (IP.out (by have h:=hin.out;rwa[Ac ia]at h));obtain⟨y0,y1,y2,y3,y4,yd⟩:=zD.out;clear hin;go_wp2;go_ret;exact⟨Oa Hw.out.symm,Zd.out⟩})
 ·have HST:Hid (∀x∈ks,um d cs [] x=true->R=true):=fun x hx hv=>by
   rw[HV.out,Aa pa,Aa pa,Aa pa,Aa pa,if_pos rfl,Kr,List.any_map,Qf];exact⟨x,hx,by simp[hv]⟩
  have IP:Hid (ks.all (fun x=>um d cs [] x==false)=true->R=false):=fun h=>by{rw[HV.out,Aa pa,Aa pa,Aa pa,Aa pa,if_pos rfl,Kr,List.any_map,List.any_eq_false];intro x hx;have:=(List.all_eq_true.1 h) x hx;simpa using this}
  clear HV xw;go_enter Tryz.func115,Tryz.ntmps115;go_wp2
  go_loopw [10] (fun iv wr=>∃k:Nat,k<=ks.length/\ iv=.int .i64 k/\ Hid ((ks.take k).all (fun x=>um d cs [] x==false)=true)/\ Hid (Below w.heap.size w wr)/\ w.heap.size+1<wr.heap.size/\ Hid (N6 wr w.heap.size (.int .i64 7) (.string nm) (.int .i64 c) (.int .i64 n) (.slice ao ks.length cap) (.slice ad d.length cd))) (fun iv _=>ks.length-(intOf iv).toNat)
  case atStart=>exact⟨0,xb _,rfl,rfl,Vd,la,HX⟩
  case round=>(obtain⟨k,hk,rfl,hin,Zd,hsz,zD⟩:=hrel;clear x0 x1 x2 x3 x4 xd;by_cases hlt:k<ks.length;{obtain⟨b,off,rfl,Rj,hL⟩:=H7.out (by intro h;simp[h]at hlt);obtain⟨ka,kc,q0,q1,q2,q3,q4,gk⟩:=Fo.Qk.get ks off k hlt (Fo.Qk.below (Zd.out.mono hB) Rj ks off hL);have hsk:=Fo.fg ks k hlt;have ho:=qG (fun x=>um d cs [] x==false) ks k hlt;rw[hin.out,Ge]at ho;have hst:=HST.out ks[k] (Ga hlt);have CK:=da (IH.out ks[k] _ _ _ wr.drew B ia (HG.out.O5 (Ga hlt)) (Wa hB Zd.out.size) (Fo.In.below (World.Za _ _ 1) _ _ gk) (fV.out.below ((Zd.out.trans (World.Za _ _ 1)).mono hB)) (aV.out.below ((Zd.out.trans (World.Za _ _ 1)).mono hB)));have HO:=da ho;have fM:=Zd;have NT:=zD;obtain⟨y0,y1,y2,y3,y4,yd⟩:=zD.out;have k0:(0:Int)<=(k:Int):=Ab _;(have k1:(k:Int)<(ks.length:Int):=ia);generalize ks[k]=x at*;clear hin ho hL gk hsk Zd zD;cases hv:um d cs [] x with| true=>{rw[hv]at CK;have Hw:=da (hst hv);clear hv hst HO;go_wp2;refine wp_region_still_tail 8 Ca Ca ?_;simp only[Zc,ze,Kd,Sd];(iterate 8 still_step);refine wpStill_nil ?_;change wpList _ _ _ _ _ wr.drew;go_wp2_with (go_at_call 115;refine CK.out.mono ?_;rintro e w8 ⟨rfl,Vh⟩;have ei:=da (fM.out.trans (((World.Za wr.heap.size wr 1).trans Vh).mono ia));have bJ:=da (Dh NT.out ((World.Za wr.heap.size wr 1).trans Vh) hsz);have LO:=Vh.size;obtain⟨s0,s1,s2,s3,s4,sd⟩:=bJ.out;clear Vh);go_ret;exact⟨Oa Hw.out.symm,ei.out⟩}| false=>{rw[hv]at CK HO;clear hv hst;go_wp2;refine wp_region_still_tail 8 Ca Ca ?_;simp only[Zc,ze,Kd,Sd];(iterate 8 still_step);refine wpStill_nil ?_;change wpList _ _ _ _ _ wr.drew;go_wp2_with (go_at_call 115;refine CK.out.mono ?_;rintro e w8 ⟨rfl,Vh⟩;have ei:=da (fM.out.trans (((World.Za wr.heap.size wr 1).trans Vh).mono ia));have bJ:=da (Dh NT.out ((World.Za wr.heap.size wr 1).trans Vh) hsz);have LO:=Vh.size;obtain⟨s0,s1,s2,s3,s4,sd⟩:=bJ.out;clear Vh);go_roundw;(case rel=>exact⟨k+1,ia,by go_num,HO.out.trans rfl,ei,Wb hsz LO,bJ⟩);case measure=>simp[intOf];omega}};{have Hw:=da (IP.out (by have h:=hin.out;rwa[Ac ia]at h));obtain⟨y0,y1,y2,y3,y4,yd⟩:=zD.out;clear hin;go_wp2;go_ret;exact⟨Oa Hw.out.symm,Zd.out⟩})
end Go.Proofs.YtejbgoigkefnfaaGreatDoor
