/- Plain core of chapter 11: Build makes no more nodes than a formula has cells, and two leaves. No program. -/
import Derived.Test.YtejbgoigkefnfaaGreatDoorAl
import Derived.Test.YtejbgoigkefnfaaGreatDoorDgTM
import Derived.Test.YtejbgoigkefnfaaGreatDoorFactA
namespace Go.Proofs.YtejbgoigkefnfaaGreatDoor
def qe :ByteArray:=⟨#[]⟩
def xj (b:Bool):Fo:=.mk (if b then 1 else 2) qe 0 0 []
def Wl (f:Fo):Option Bool:=if f.op=1 then some true else if f.op=2 then some false else none
def en (op unit zero:Int)(l:List Fo):Fo:=
 match l.find? (fun k=>k.op==zero)with
 | some k=>k
 | none=>match l.filter (fun k=>k.op !=unit)with
  | []=>.mk unit qe 0 0 []
  | [k]=>k
  | ks=>.mk op qe 0 0 ks
def Yu (k:Fo):Fo:=match Wl k with | some b=>xj (!b) | none=>.mk 5 qe 0 0 [k]
mutual
def jg (nm:ByteArray)(v:Int):Fo->Fo
 | .mk op s c n ks=>
  if op=3 then(if Ni s nm then xj (Il v c n)else .mk op s c n ks)
  else if op=5 then Yu ((Yt nm v ks).headD default)
  else if op=6 then en 6 1 2 (Yt nm v ks)
  else if op=7 then en 7 2 1 (Yt nm v ks)
  else .mk op s c n ks
def Yt (nm:ByteArray)(v:Int):List Fo->List Fo
 | []=>[]
 | k::ks=>jg nm v k::Yt nm v ks
end
theorem Zt (nm:ByteArray)(v:Int):∀ks,Yt nm v ks=ks.map (jg nm v)
 | []=>rfl
 | k::ks=>by rw[Yt,Va,Zt nm v ks]
mutual
def ve (d:List Fa)(c:Nat->Int):Fo->Bool
 | .mk op s m n ks=>
  if op=3 then Il (c (tg d s).toNat) m n
  else if op=5 then !((Jl d c ks).headD false)
  else if op=6 then(Jl d c ks).all id
  else if op=7 then(Jl d c ks).any id
  else op==1
def Jl (d:List Fa)(c:Nat->Int):List Fo->List Bool
 | []=>[]
 | k::ks=>ve d c k::Jl d c ks
end
theorem Kl (d:List Fa)(c:Nat->Int):∀ks,Jl d c ks=ks.map (ve d c)
 | []=>rfl
 | k::ks=>by rw[Jl,Va,Kl d c ks]
mutual
def Kj (d:List Fa):Fo->Prop
 | .mk op s c n ks=>((op=1\/op=2)/\ s=qe/\ c=0/\ n=0/\ ks=[])\/
   (op=3/\ (1<=c/\ c<=6)/\ (0<=n/\ n<=1000000)/\ Hd s=true/\ (∃k:Nat,tg d s=k/\ k<d.length)/\ ks=[])\/
   ((op=5/\ ks.length=1\/(op=6\/op=7)/\ 2<=ks.length)/\ s=qe/\ c=0/\ n=0/\ pR d ks)
def pR (d:List Fa):List Fo->Prop
 | []=>True
 | k::ks=>Kj d k/\ pR d ks
end
theorem si (d:List Fa):∀ks,pR d ks↔∀k∈ks,Kj d k
 | []=>by simp[pR]
 | k::ks=>by simp[pR,si d ks]
mutual
def ZN :Fo->Prop
 | .mk op _ _ _ ks=>op≠1/\ op≠2/\ CU ks
def CU :List Fo->Prop
 | []=>True
 | k::ks=>ZN k/\ CU ks
end
theorem FJ :∀ks,CU ks↔∀k∈ks,ZN k
 | []=>by simp[CU]
 | k::ks=>by simp[CU,FJ ks]
def MH (f:Fo):Prop:=Wl f≠none\/ZN f
mutual
def jd :Fo->List (ByteArray×Int×Int)
 | .mk op s c n ks=>(if op=3 then[(s,c,n)]else[])++qd ks
def qd :List Fo->List (ByteArray×Int×Int)
 | []=>[]
 | k::ks=>jd k++qd ks
end
theorem bj :∀ks t,t∈qd ks↔∃k∈ks,t∈jd k
 | [],t=>by simp[qd]
 | k::ks,t=>by simp[qd,bj ks t]
theorem rv (b:Bool):Wl (xj b)=some b:=by cases b<;>rfl
theorem ql (d:List Fa)(c:Nat->Int)(b:Bool):ve d c (xj b)=b:=by cases b<;>simp[xj,ve]
theorem Ay (d:List Fa)(b:Bool):Kj d (xj b):=by
 unfold xj;rw[Kj];left;cases b<;>simp
theorem Pq (b:Bool):jd (xj b)=[]:=by cases b<;>simp[xj,jd,qd]
theorem NC {d:List Fa}{f:Fo}{b:Bool}(h:Kj d f)(hc:Wl f=some b):f=xj b:=by
 obtain⟨op,s,c,n,ks⟩:=f
 change(if op=1 then some true else if op=2 then some false else none)=some b at hc
 rw[Kj]at h
 have hop:op=1/\ b=true\/op=2/\ b=false:=by{by_cases h1:op=1;{rw[if_pos h1]at hc;exact .inl ⟨h1,by simpa using hc.symm⟩};{rw[Aa h1]at hc;by_cases h2:op=2;{rw[if_pos h2]at hc;exact .inr ⟨h2,by simpa using hc.symm⟩};{rw[Aa h2]at hc;cases hc}}}
 rcases h with⟨_,rfl,rfl,rfl,rfl⟩ | ⟨h,_⟩ | ⟨h,_⟩
 {rcases hop with⟨rfl,rfl⟩ | ⟨rfl,rfl⟩<;>rfl}
 {omega}
 {omega}
theorem iy {f:Fo}:Wl f=none↔f.op≠1/\ f.op≠2:=by
 unfold Wl;by_cases h1:f.op=1
 {simp[h1]}
 {by_cases h2:f.op=2;{simp[h2]};{simp[h1,h2]}}
theorem NH {f:Fo}(h:MH f)(hc:Wl f=none):ZN f:=h.elim (fun h=>absurd hc h) id
theorem kS {d:List Fa}{k:Fo}(h:Kj d k)(hr:MH k):Kj d (Yu k)/\ MH (Yu k)/\ (∀c,ve d c (Yu k)= !ve d c k)/\ ∀t∈jd (Yu k),t∈jd k:=by
 unfold Yu;cases hc:Wl k with| some b=>{have:=NC h hc;subst this;refine⟨Ay _ _,.inl (by rw[rv];simp),fun c=>by rw[ql,ql],fun t ht=>by rw[Pq]at ht;cases ht⟩}| none=>{refine⟨?_,.inr ?_,?_,?_⟩;{show Kj d (.mk 5 qe 0 0 [k]);rw[Kj];exact .inr (.inr ⟨.inl ⟨rfl,rfl⟩,rfl,rfl,rfl,by rw[pR];exact⟨h,trivial⟩⟩)};{show ZN (.mk 5 qe 0 0 [k]);rw[ZN];exact⟨pa,pa,by rw[CU];exact⟨NH hr hc,trivial⟩⟩};{intro c;show ve d c (.mk 5 qe 0 0 [k])=_;rw[ve];simp[Jl]};{intro t ht;have ht:t∈jd (.mk 5 qe 0 0 [k]):=ht;rw[jd]at ht;simpa[qd]using ht}}
theorem aO {d:List Fa}{op:Int}(hop:op=6\/op=7){l:List Fo}(h:∀k∈l,Kj d k)(hr:∀k∈l,MH k):
  let u:=if op=6 then 1 else 2;let z:=if op=6 then 2 else 1
  Kj d (en op u z l)/\ MH (en op u z l)/\ (∀c,ve d c (en op u z l)=if op=6 then(l.map (ve d c)).all id else(l.map (ve d c)).any id)/\ ∀t∈jd (en op u z l),∃k∈l,t∈jd k:=by
 intro u z
 have hz1:∀k∈l,k.op=z->∀c,ve d c k=decide (op≠6):=by{intro k hk cw c;have hc:Wl k=some (decide (op≠6)):=by{unfold Wl;rw[cw];rcases hop with rfl | rfl<;>simp[z]};rw[NC (h k hk) hc,ql]}
 have GJ:∀k∈l,k.op=u->∀c,ve d c k=decide (op=6):=by{intro k hk cW c;have hc:Wl k=some (decide (op=6)):=by{unfold Wl;rw[cW];rcases hop with rfl | rfl<;>simp[u]};rw[NC (h k hk) hc,ql]}
 unfold en;cases hf:l.find? (fun k=>k.op==z)with
 | some k=>{have hk:=List.mem_of_find?_eq_some hf;(have cw:k.op=z:=by simpa using List.find?_some hf);refine⟨h k hk,hr k hk,fun c=>?_,fun t ht=>⟨k,hk,ht⟩⟩;have h1:=hz1 k hk cw c;show ve d c k=_;rw[h1];(rcases hop with rfl | rfl);{symm;simp only[if_true];show _=false;rw[List.all_eq_false];refine⟨ve d c k,Ze hk,?_⟩;rw[h1];decide};{symm;rw[Aa pa];show _=true;rw[Qf];refine⟨ve d c k,Ze hk,?_⟩;rw[h1];rfl}}
 | none=>
  have hnz:∀k∈l,k.op≠z:=by{intro k hk e;have:=List.find?_eq_none.1 hf k hk;simp[e]at this}
  have hval:∀c,(if op=6 then(l.map (ve d c)).all id else(l.map (ve d c)).any id)=
    if op=6 then((l.filter (fun k=>k.op !=u)).map (ve d c)).all id else((l.filter (fun k=>k.op !=u)).map (ve d c)).any id:=by
   intro c;rcases hop with rfl | rfl
   {simp only[if_true];rw[Nc,Je,Je];constructor;{intro hh x hx;obtain⟨k,hk,rfl⟩:=List.mem_map.1 hx;exact hh _ (Ze (List.mem_filter.1 hk).1)};{intro hh x hx;obtain⟨k,hk,rfl⟩:=List.mem_map.1 hx;by_cases cW:k.op=u;{rw[GJ k hk cW c];rfl};{exact hh _ (Ze (List.mem_filter.2 ⟨hk,by simpa using cW⟩))}}}
   {rw[Aa pa,Aa pa];rw[Nc,Qf,Qf];constructor;{rintro⟨x,hx,h1⟩;obtain⟨k,hk,rfl⟩:=List.mem_map.1 hx;by_cases cW:k.op=u;{rw[GJ k hk cW c]at h1;exact absurd h1 pa};{exact⟨_,Ze (List.mem_filter.2 ⟨hk,by simpa using cW⟩),h1⟩}};{rintro⟨x,hx,h1⟩;obtain⟨k,hk,rfl⟩:=List.mem_map.1 hx;exact⟨_,Ze (List.mem_filter.1 hk).1,h1⟩}}
  have Gl:∀k∈l.filter (fun k=>k.op !=u),k∈l/\ ZN k:=by{intro k hk;have hk':=List.mem_filter.1 hk;refine⟨hk'.1,NH (hr k hk'.1) (iy.2 ?_)⟩;(have h1:k.op≠u:=by simpa using hk'.2);have h2:=hnz k hk'.1;(rcases hop with rfl | rfl);{exact⟨h1,h2⟩};{exact⟨h2,h1⟩}}
  revert hval Gl;generalize l.filter (fun k=>k.op !=u)=m;intro hval Gl
  match m,hval,Gl with| [],hval,_=>{(have he:(Fo.mk u qe 0 0 [])=xj (decide (op=6)):=by rcases hop with rfl | rfl<;>rfl);dsimp only;rw[he];refine⟨Ay _ _,.inl (by rw[rv];simp),fun c=>?_,fun t ht=>by rw[Pq]at ht;cases ht⟩;rw[ql,hval c];rcases hop with rfl | rfl<;>rfl}| [k],hval,Gl=>{dsimp only;have hk:=Gl k la;refine⟨h k hk.1,hr k hk.1,fun c=>?_,fun t ht=>⟨k,hk.1,ht⟩⟩;rw[hval c];simp}| a::b::ks,hval,Gl=>{dsimp only;refine⟨?_,.inr ?_,fun c=>?_,fun t ht=>?_⟩;{rw[Kj];refine .inr (.inr ⟨.inr ⟨hop,la⟩,rfl,rfl,rfl,?_⟩);rw[si];exact fun k hk=>h k (Gl k hk).1};{rw[ZN,FJ];exact⟨ia,ia,fun k hk=>(Gl k hk).2⟩};{rw[hval c,ve,Kl];(rcases hop with rfl | rfl);{rw[Aa pa,Aa pa,if_pos rfl,if_pos rfl]};{rw[Aa pa,Aa pa,Aa pa,if_pos rfl,Aa pa]}};{rw[jd,Aa ia,Ya,bj]at ht;obtain⟨k,hk,ht⟩:=ht;exact⟨k,(Gl k hk).1,ht⟩}}
theorem fx (d:List Fa)(nm:ByteArray)(v:Int):∀(N:Nat) (f:Fo),f.size<=N->Kj d f->
  Kj d (jg nm v f)/\ MH (jg nm v f)/\
  (∀c,(∀t∈jd f,t.1=nm->Il v t.2.1 t.2.2=Il (c (tg d nm).toNat) t.2.1 t.2.2)->ve d c (jg nm v f)=ve d c f)/\
  ∀t∈jd (jg nm v f),t∈jd f/\ t.1≠nm:=by
 intro N
 induction N with
 | zero=>intro f h;have:=f.size_pos;omega
 | succ N ih=>
  intro f hN hw;obtain⟨op,s,c,n,ks⟩:=f
  have Qv:∀k∈ks,k.size<=N:=by{intro k hk;obtain⟨i,hi,rfl⟩:=zb hk;have:=Fo.fg ks i hi;rw[Fo.size]at hN;omega}
  rw[Kj]at hw;rcases hw with⟨h1,rfl,rfl,rfl,rfl⟩ | ⟨rfl,h1,h2,h3,h4,rfl⟩ | ⟨h1,rfl,rfl,rfl,ZD⟩
  {(have hne:op≠3/\ op≠5/\ op≠6/\ op≠7:=ia);have he:jg nm v (.mk op qe 0 0 [])=.mk op qe 0 0 []:=by{rw[jg,Aa hne.1,Aa hne.2.1,Aa hne.2.2.1,Aa hne.2.2.2]};rw[he];refine⟨by rw[Kj];exact .inl ⟨h1,rfl,rfl,rfl,rfl⟩,.inl ?_,fun _ _=>rfl,fun t ht=>?_⟩;{rw[Ne,iy];simp only[Fo.op];omega};{rw[jd,Aa hne.1]at ht;simp[qd]at ht}}
  {rw[jg,if_pos rfl];by_cases hs:Ni s nm=true;{rw[if_pos hs];(have EM:s=nm:=by unfold Ni at hs;rw[<-jv]at hs;simpa using hs);subst EM;refine⟨Ay _ _,.inl (by rw[rv];simp),fun c' hc=>?_,fun t ht=>by rw[Pq]at ht;cases ht⟩;rw[ql,ve,if_pos rfl];exact hc (s,c,n) (by simp[jd,qd]) rfl};{rw[Aa hs];refine⟨by rw[Kj];exact .inr (.inl ⟨rfl,h1,h2,h3,h4,rfl⟩),.inr ?_,fun _ _=>rfl,fun t ht=>⟨ht,?_⟩⟩;{rw[ZN,CU];exact⟨pa,pa,trivial⟩};{rw[jd,if_pos rfl,qd,Yc,Nb]at ht;subst ht;intro e;have e:s=nm:=e;apply hs;unfold Ni;rw[e];simp}}}
  ·have ZD:=(si d ks).1 ZD
   have IH:=fun k (hk:k∈ks)=>ih k (Qv k hk) (ZD k hk)
   have aH:∀ {dW:Int} (_:dW≠3) t,t∈jd (.mk dW qe 0 0 ks)↔∃k∈ks,t∈jd k:=by{intro dW ho t;rw[jd,Aa ho,Ya,bj]}
   rcases h1 with⟨rfl,OH⟩ | ⟨hop,FM⟩
   {obtain⟨k,rfl⟩:=List.length_eq_one_iff.1 OH;have he:jg nm v (.mk 5 qe 0 0 [k])=Yu (jg nm v k):=by{rw[jg,Aa pa,if_pos rfl];simp[Yt]};rw[he];have hk:=IH k la;obtain⟨q1,q2,q3,q4⟩:=kS hk.1 hk.2.1;refine⟨q1,q2,fun c hc=>?_,fun t ht=>?_⟩;{rw[q3,hk.2.2.1 c (fun t ht=>hc t ((aH pa t).2 ⟨k,la,ht⟩)),ve];simp[Jl]};{have:=hk.2.2.2 t (q4 t ht);exact⟨(aH pa t).2 ⟨k,la,this.1⟩,this.2⟩}}
   ·have he:jg nm v (.mk op qe 0 0 ks)=en op (if op=6 then 1 else 2) (if op=6 then 2 else 1) (ks.map (jg nm v)):=by
     rw[jg,Aa ia,Aa ia];rcases hop with rfl | rfl
     {rw[if_pos rfl,if_pos rfl,if_pos rfl,Zt]}
     {rw[Aa pa,if_pos rfl,Aa pa,Aa pa,Zt]}
    rw[he];obtain⟨q1,q2,q3,q4⟩:=aO (d:=d) hop (l:=ks.map (jg nm v)) (fun x hx=>by obtain⟨k,hk,rfl⟩:=List.mem_map.1 hx;exact(IH k hk).1) (fun x hx=>by obtain⟨k,hk,rfl⟩:=List.mem_map.1 hx;exact(IH k hk).2.1);refine⟨q1,q2,fun c hc=>?_,fun t ht=>?_⟩
    {rw[q3,ti];have hm:ks.map (ve d c∘jg nm v)=ks.map (ve d c):=by{(refine Ye fun k hk=>?_);exact(IH k hk).2.2.1 c (fun t ht=>hc t ((aH ia t).2 ⟨k,hk,ht⟩))};rw[hm,ve,Kl];(rcases hop with rfl | rfl);{rw[if_pos rfl,Aa pa,Aa pa,if_pos rfl]};{rw[Aa pa,Aa pa,Aa pa,Aa pa,if_pos rfl]}}
    {obtain⟨x,hx,ht⟩:=q4 t ht;obtain⟨k,hk,rfl⟩:=List.mem_map.1 hx;have:=(IH k hk).2.2.2 t ht;exact⟨(aH ia t).2 ⟨k,hk,this.1⟩,this.2⟩}
theorem bO (d:List Fa):∀(N:Nat) (f:Fo),f.size<=N->Kj d f->ZN f->jd f≠[]:=by
 intro N
 induction N with
 | zero=>intro f h;have:=f.size_pos;omega
 | succ N ih=>
  intro f hN hw hn;obtain⟨op,s,c,n,ks⟩:=f;rw[Kj]at hw;rw[ZN]at hn;rcases hw with⟨h1,_⟩ | ⟨rfl,_⟩ | ⟨h1,_,_,_,ZD⟩
  {omega}
  {rw[jd,if_pos rfl];simp}
  ·obtain⟨k,l,rfl⟩:∃k l,ks=k::l:=by
    cases ks with| nil=>simp at h1| cons k l=>exact⟨k,l,rfl⟩
   rw[pR]at ZD;have SY:=hn.2.2;rw[CU]at SY;have:=ih k (by rw[Fo.size,Fo.Tc]at hN;omega) ZD.1 SY.1;intro e;rw[jd]at e;have e:=(List.append_eq_nil_iff.1 e).2;rw[qd]at e;exact this (List.append_eq_nil_iff.1 e).1
theorem lS {s:ByteArray}(h:Hd s=true):Qq s:=by
 unfold Hd at h;simp only[ub]at h;obtain⟨⟨h1,_⟩,_⟩:=h
 have key:∀(l:List UInt8) (k:Nat),Vi l k=true->(∀c∈l,c≠44)/\ (k=0->∀c∈l.head?,aq c=false):=by{intro l;induction l with| nil=>intro k _;simp| cons a l ih=>{intro k h;rw[Vi,ub]at h;obtain⟨i1,_⟩:=ih _ h.2;have ha:=h.1;unfold okB at ha;rw[decide_eq_true_eq]at ha;refine⟨fun c hc=>?_,fun hk c hc=>?_⟩;{(rcases List.mem_cons.1 hc with rfl | hc);{rintro rfl;simp at ha};{exact i1 c hc}};{subst hk;simp at hc;subst hc;simp only[ne_eq,not_true,false_and,or_false]at ha;unfold aq;rw[Bool.and_eq_false_iff,decide_eq_false_iff_not,decide_eq_false_iff_not];omega}}}
 obtain⟨k1,k2⟩:=key _ 0 h1;rw[Qq,Sc];exact⟨k1,k2 rfl⟩
theorem cO :Qq qe:=by
 have:qe.toList=[]:=by rw[Sc];rfl
 rw[Qq,this];simp
theorem DU (d:List Fa):∀(N:Nat) (f:Fo),f.size<=N->Kj d f->gu f:=by
 intro N
 induction N with| zero=>intro f h;have:=f.size_pos;omega| succ N ih=>{intro f hN hw;obtain⟨op,s,c,n,ks⟩:=f;rw[Kj]at hw;rw[gu,rB];(rcases hw with⟨h1,rfl,_,_,rfl⟩ | ⟨rfl,_,_,h3,_,rfl⟩ | ⟨h1,rfl,_,_,ZD⟩);{exact⟨ia,cO,la⟩};{exact⟨ia,lS h3,la⟩};{refine⟨ia,cO,fun k hk=>ih k ?_ ((si d ks).1 ZD k hk)⟩;obtain⟨i,hi,rfl⟩:=zb hk;have:=Fo.fg ks i hi;rw[Fo.size]at hN;omega}}
section
def uh (nm:ByteArray)(f:Fo):List Int:=((jd f).filter fun t=>Ni t.1 nm).flatMap fun t=>[t.2.2,t.2.2+1]
def Ds :List Int->List Int
 | []=>[]
 | a::l=>a::Io a l
def Rn (nm:ByteArray)(lo hi:Int)(f:Fo):List Int:=Ds (((lo::uh nm f).mergeSort fun x y=>decide (x<=y)).filter fun n=> !(decide (n<lo) || decide (hi<n)))
theorem Kq (nm:ByteArray)(f:Fo)(x:Int):x∈uh nm f↔∃t∈jd f,t.1=nm/\ (x=t.2.2\/x=t.2.2+1):=by
 unfold uh;rw[List.mem_flatMap];constructor
 {rintro⟨t,ht,hx⟩;rw[List.mem_filter]at ht;have h1:=ht.2;unfold Ni at h1;rw[<-jv]at h1;exact⟨t,ht.1,by simpa using h1,by simpa using hx⟩}
 {rintro⟨t,ht,rfl,hx⟩;refine⟨t,List.mem_filter.2 ⟨ht,by simp[Ni]⟩,by simpa using hx⟩}
theorem th (nm:ByteArray){lo hi:Int}(hlh:lo<=hi)(f:Fo):∃ss,Rn nm lo hi f=lo::ss/\ Xe hi lo ss/\ ∀x,x∈lo::ss↔(lo<=x/\ x<=hi)/\ (x=lo\/x∈uh nm f):=by
 have hs:((lo::uh nm f).mergeSort fun x y=>decide (x<=y)).Pairwise (· <= ·):=by{have:=List.pairwise_mergeSort (le:=fun x y:Int=>decide (x<=y)) (fun a b c h1 h2=>by simp at*;omega) (fun a b=>by simp;omega) (lo::uh nm f);exact this.imp fun h=>by simpa using h}
 have hm:∀x,x∈((lo::uh nm f).mergeSort fun x y=>decide (x<=y)).filter (fun n=> !(decide (n<lo) || decide (hi<n)))↔(lo<=x/\ x<=hi)/\ (x=lo\/x∈uh nm f):=by{intro x;rw[List.mem_filter,List.mem_mergeSort,He];simp only[sg,Wh,decide_eq_false_iff_not];constructor;{rintro⟨h1,h2,h3⟩;exact⟨ia,h1⟩};{rintro⟨h1,h2⟩;exact⟨h2,ia,ia⟩}}
 unfold Rn;have hp:=hs.filter (fun n=> !(decide (n<lo) || decide (hi<n)));revert hm hp;generalize((lo::uh nm f).mergeSort fun x y=>decide (x<=y)).filter (fun n=> !(decide (n<lo) || decide (hi<n)))=l;intro hm hp;obtain⟨ls,ss,e1,e2,e3,e4⟩:=Tt hp (fun x hx=>((hm x).1 hx).1) ((hm lo).2 ⟨⟨Jc _,hlh⟩,.inl rfl⟩);refine⟨ss,by rw[e1,e2];rfl,e3,fun x=>?_⟩;rw[e4 x,hm x]
theorem Xv {v u how n:Int}(h1:¬(v<n/\ n<=u))(h2:¬(v<n+1/\ n+1<=u))(h:v<=u):Il v how n=Il u how n:=by
 have e1:decide (v=n)=decide (u=n):=by rw[decide_eq_decide];omega
 have e2:decide (v≠n)=decide (u≠n):=by rw[decide_eq_decide];omega
 have e3:decide (v<n)=decide (u<n):=by rw[decide_eq_decide];omega
 have e4:decide (v<=n)=decide (u<=n):=by rw[decide_eq_decide];omega
 have e5:decide (n<v)=decide (n<u):=by rw[decide_eq_decide];omega
 have e6:decide (n<=v)=decide (n<=u):=by rw[decide_eq_decide];omega
 unfold Il;rw[e1,e2,e3,e4,e5,e6]
def Zr (d:List Fa)(i:Nat):ByteArray:=(d.getD i default).name
def Pe (d:List Fa)(i:Nat):Int:=(d.getD i default).lo
def Mh (d:List Fa)(i:Nat):Int:=(d.getD i default).hi
structure Ih (d : List Fa) : Prop where
 len:d.length<=60
 name:∀i,i<d.length->tg d (Zr d i)=i/\ Hd (Zr d i)=true
 Fq:∀i,i<d.length->0<=Pe d i/\ Pe d i<=Mh d i/\ Mh d i<=1000000
theorem tB :∀(d:List Fa) (s:ByteArray) (k:Int),(∃j:Nat,idxFrom (fun f:Fa=>Ni f.name s) d k=k+j/\ ∃h:j<d.length,d[j].name=s)\/idxFrom (fun f:Fa=>Ni f.name s) d k= -1
 | [],_,_=>.inr rfl
 | f::d,s,k=>by{rw[idxFrom];by_cases h:Ni f.name s=true;{rw[if_pos h];refine .inl ⟨0,ia,la,?_⟩;unfold Ni at h;rw[<-jv]at h;simpa using h};{rw[Aa h];(rcases tB d s (k+1)with⟨j,h1,h2,h3⟩ | h1);{exact .inl ⟨j+1,by rw[h1];omega,by simp;omega,by simpa using h3⟩};{exact .inr h1}}}
theorem dy {d:List Fa}{s:ByteArray}{k:Nat}(h:tg d s=k)(hk:k<d.length):Zr d k=s:=by
 unfold tg at h;rcases tB d s 0 with⟨j,h1,h2,h3⟩ | h1
 {(have:j=k:=ia);subst this;unfold Zr;rw[Eb _ _ _ hk];exact h3}
 {omega}
variable {d : List Fa}
def mq (d:List Fa)(i:Nat)(s:Fo)(v:Int):Fo:=jg (Zr d i) v s
def gl (d:List Fa)(i:Nat)(s:Fo):List Int:=Rn (Zr d i) (Pe d i) (Mh d i) s
def qj (d:List Fa)(f:Nat)(m:List Dn)(dn:List (ByteArray×Nat))(i:Nat)(s:Fo):(List Dn×List (ByteArray×Nat))×Nat:=Uk d.length Wl (gl d) (mq d) il 20000 f m dn i s
structure Vl (d : List Fa) (f0 : Fo) (i : Nat) (s : Fo) : Prop where
 le:i<=d.length
 wf:Kj d s
 red:MH s
 tests:∀t∈jd s,t∈jd f0/\ ∃k,i<=k/\ k<d.length/\ tg d t.1=(k:Nat)
 from_:∃vs:List Int,vs.length=i/\ (∀j,j<i->vs.getD j 0∈gl d j f0)/\ ∀c,ee d.length (Pe d) (Mh d) c->ve d c s=ve d (fun j=>if j<i then vs.getD j 0 else c j) f0
theorem dO (hd:Ih d){s f:Fo}(h:∀t∈jd s,t∈jd f){i:Nat}(hi:i<d.length){v:Int}(hv:v∈gl d i s):v∈gl d i f:=by
 have hl:=(hd.Fq i hi).2.1;obtain⟨ss,e1,_,e2⟩:=th (Zr d i) hl s;obtain⟨ss',eW,_,e2'⟩:=th (Zr d i) hl f;unfold gl at*
 rw[e1,e2]at hv;rw[eW,e2'];refine⟨hv.1,hv.2.imp id fun h1=>?_⟩;rw[Kq]at h1⊢;obtain⟨t,h2,h3⟩:=h1;exact⟨t,h t h2,h3⟩
theorem Zw (hd:Ih d){f0:Fo}{i:Nat}{s:Fo}(h:Vl d f0 i s)(hi:i<d.length){v:Int}(hv:v∈gl d i s):Vl d f0 (i+1) (mq d i s v):=by
 obtain⟨q1,q2,q3,q4⟩:=fx d (Zr d i) v s.size s (ja _) h.wf;obtain⟨vs,VM,rR,hval⟩:=h.from_;obtain⟨ss,es,_,em⟩:=th (Zr d i) (hd.Fq i hi).2.1 s
 have Hn:Pe d i<=v/\ v<=Mh d i:=by{unfold gl at hv;rw[es,em]at hv;exact hv.1}
 refine⟨hi,q1,q2,?_,vs++[v],by simp[VM],?_,?_⟩
 {intro t ht;have h1:=q4 t ht;obtain⟨h2,k,h3,h4,h5⟩:=h.tests t h1.1;refine⟨h2,k,?_,h4,h5⟩;(rcases Kc i k with h6 | h6);{exact h6};{exfalso;(have:k=i:=ia);subst this;exact h1.2 (dy h5 h4).symm}}
 {intro j hj;(rcases Kc j i with h1 | h1);{rw[Cf _ _ _ ia];exact rR j h1};{(have:j=vs.length:=ia);subst this;rw[pd,VM];exact dO hd (fun t ht=>(h.tests t ht).1) hi hv}}
 ·intro c fc
  have hc':ee d.length (Pe d) (Mh d) (Yl c i v):=Hj fc Hn.1 Hn.2
  have e1:ve d c (mq d i s v)=ve d (Yl c i v) (mq d i s v):=by
   have hh:∀(N:Nat) (f:Fo),f.size<=N->Kj d f->(∀t∈jd f,t.1≠Zr d i)->ve d c f=ve d (Yl c i v) f:=by
    intro N
    induction N with
    | zero=>intro f h;have:=f.size_pos;omega
    | succ N ih=>
     intro f hN hw ht;obtain⟨op,s,m,n,ks⟩:=f;rw[Kj]at hw;rw[ve,ve];rcases hw with⟨h1,_⟩ | ⟨rfl,_,_,_,⟨k,hk,dl⟩,_⟩ | ⟨h1,_,_,_,ZD⟩
     {rw[Aa ia,Aa ia,Aa ia,Aa ia,Aa ia,Aa ia,Aa ia,Aa ia]}
     {rw[if_pos rfl,if_pos rfl];have h2:(tg d s).toNat≠i:=by{intro e;rw[hk,Gb]at e;subst e;exact ht (s,m,n) (by simp[jd]) (dy hk dl).symm};unfold Yl;rw[Aa h2]}
     ·have hm:Jl d c ks=Jl d (Yl c i v) ks:=by
       rw[Kl,Kl];refine Ye fun k hk=>ih k ?_ ((si d ks).1 ZD k hk) fun t eO=>ht t ?_
       {obtain⟨j,hj,rfl⟩:=zb hk;have:=Fo.fg ks j hj;rw[Fo.size]at hN;omega}
       {rw[jd,De,bj];exact .inr ⟨k,hk,eO⟩}
      have h3:op≠3:=by omega
      rw[Aa h3,Aa h3,hm]
   exact hh _ _ (ja _) q1 fun t ht=>(q4 t ht).2
  rw[e1]
  show ve d (Yl c i v) (jg (Zr d i) v s)=_
  rw[q3 (Yl c i v) ?_,hval _ hc']
  {congr 1;funext j;unfold Yl;by_cases h1:j<i;{rw[if_pos h1,if_pos ia,Cf _ _ _ ia]};{rw[Aa h1];by_cases h2:j=i;{rw[if_pos h2,if_pos ia,h2];have:=pd vs v 0;rw[VM]at this;exact this.symm};{rw[Aa h2,Aa ia]}}}
  {intro t ht e;rw[(hd.name i hi).1,Gb];unfold Yl;rw[if_pos rfl]}
theorem uB (hd:Ih d){f0:Fo}{i:Nat}{s:Fo}(h:Vl d f0 i s)(hi:i<d.length):∃ss,gl d i s=Pe d i::ss/\ Xe (Mh d i) (Pe d i) ss/\
  ∀c,ee d.length (Pe d) (Mh d) c->ve d c s=ve d c (mq d i s ((Pe d i::ss).getD (Yd ss (c i)) 0)):=by
 obtain⟨ss,e1,e2,e3⟩:=th (Zr d i) (hd.Fq i hi).2.1 s;refine⟨ss,e1,e2,fun c fc=>?_⟩;obtain⟨_,_,q3,_⟩:=fx d (Zr d i) ((Pe d i::ss).getD (Yd ss (c i)) 0) s.size s (ja _) h.wf;have fW:=fc i hi;obtain⟨g1,g2,g3⟩:=Cy ss (Pe d i) (c i) e2 fW.1;symm
 unfold mq;refine q3 c fun t ht e=>?_
 rw[(hd.name i hi).1,Gb]
 have key:∀x,x=t.2.2\/x=t.2.2+1->¬((Pe d i::ss).getD (Yd ss (c i)) 0<x/\ x<=c i):=by{intro x hx hh;have:=g3 x ((e3 x).2 ⟨ia,.inr ((Kq _ _ _).2 ⟨t,ht,e,hx⟩)⟩) hh.2;omega}
 exact Xv (key _ (.inl rfl)) (key _ (.inr rfl)) g1
theorem DJ {f0 s:Fo}(h:Vl d f0 d.length s):Wl s≠none:=by
 intro hc;have h1:=bO d s.size s (ja _) h.wf (NH h.red hc);cases ht:jd s with| nil=>exact h1 ht| cons t l=>{obtain⟨_,k,h2,h3,_⟩:=h.tests t (by rw[ht];simp);omega}
theorem Jr {f:Fo}(h:Kj d f):Vl d f 0 (jg qe 0 f):=by
 obtain⟨q1,q2,q3,q4⟩:=fx d qe 0 f.size f (ja _) h
 have hne:∀(N:Nat) (f:Fo),f.size<=N->Kj d f->∀t∈jd f,t.1≠qe/\ ∃k:Nat,k<d.length/\ tg d t.1=k:=by{intro N;induction N with| zero=>intro f h;have:=f.size_pos;omega| succ N ih=>{intro f hN hw t ht;obtain⟨op,s,m,n,ks⟩:=f;rw[Kj]at hw;rw[jd,De,bj]at ht;(rcases hw with⟨h1,_,_,_,rfl⟩ | ⟨rfl,_,_,h3,⟨k,hk,dl⟩,rfl⟩ | ⟨h1,_,_,_,ZD⟩);{rw[Aa ia]at ht;simp at ht};{simp at ht;subst ht;refine⟨?_,k,dl,hk⟩;intro e;have e:s=qe:=e;rw[e,show Hd qe=false by kernel_rfl]at h3;cases h3};{rw[Aa ia]at ht;simp only[Pf,false_or]at ht;obtain⟨k,hk,ht⟩:=ht;refine ih k ?_ ((si d ks).1 ZD k hk) t ht;obtain⟨j,hj,rfl⟩:=zb hk;have:=Fo.fg ks j hj;rw[Fo.size]at hN;omega}}}
 refine⟨xb _,q1,q2,?_,[],rfl,fun j hj=>absurd hj (Ib j),?_⟩
 {intro t ht;have h1:=q4 t ht;obtain⟨_,k,h3,h4⟩:=hne _ f (ja _) h t h1.1;exact⟨h1.1,k,xb _,h3,h4⟩}
 {intro c _;rw[q3 c fun t ht e=>absurd e (hne _ f (ja _) h t ht).1];congr 1}
theorem mS {f:Fo}{b:Bool}(h:Kj d f)(hc:Wl f=some b)(c:Nat->Int):ve d c f=b:=by rw[NC h hc,ql]
theorem WE (hd:Ih d){f0:Fo}(hcap:∀m dn,Nn d.length (Pe d) (Mh d) (fun s c=>ve d c s) il (Vl d f0) m dn->m.length<=20000)(f:Nat)(m:List Dn)(dn:List (ByteArray×Nat))(i:Nat)(s:Fo)
  (hI:Nn d.length (Pe d) (Mh d) (fun s c=>ve d c s) il (Vl d f0) m dn) (hR:Vl d f0 i s) (hf:d.length-i<f):
  Nn d.length (Pe d) (Mh d) (fun s c=>ve d c s) il (Vl d f0) (qj d f m dn i s).1.1 (qj d f m dn i s).1.2/\ Vn d.length (Pe d) (Mh d) (fun s c=>ve d c s) (qj d f m dn i s).1.1 i s (qj d f m dn i s).2/\
  ∃u,(qj d f m dn i s).1.1=m++u:=by
 refine oS hcap (fun i s bl hr hc c _=>mS hr.wf hc c) (fun s hr=>DJ hr) (fun i s hr=>hr.le) ?_ (fun i s v hr _ hi hv=>Zw hd hr hi hv) (fun i s hr _ hi=>uB hd hr hi) f m dn i s hI hR hf;intro i s i' s' hr IZ he;obtain⟨e1,e2⟩:=fO (DU d _ s (ja _) hr.wf) (DU d _ s' (ja _) IZ.wf) he;exact⟨e1,fun c _=>by rw[e2]⟩
theorem aB (f0:Fo):Nn d.length (Pe d) (Mh d) (fun s c=>ve d c s) il (Vl d f0) [] []:=
 ⟨Made.nil,fun k h=>absurd h (Ib k),fun _ _ _ _ h=>by cases h⟩
end
section
def yi (b:Nat->Nat):Nat->Nat
 | 0=>1
 | n+1=>yi b n*b n
def gF (b a:Nat->Nat):Nat->Nat
 | 0=>0
 | n+1=>gF b a n+a n*yi b n
theorem OC {b a:Nat->Nat}:∀ {n:Nat},(∀j,j<n->a j<b j)->gF b a n<yi b n
 | 0,_=>Nat.one_pos
 | n+1,h=>by{(have ih:=OC (n:=n) fun j hj=>h j ia);have h1:(a n+1)*yi b n<=b n*yi b n:=ye _ (h n ia);rw[Ee]at h1;rw[gF,yi,Nat.mul_comm (yi b n)];omega}
theorem IJ {b a a':Nat->Nat}:∀ {n:Nat},(∀j,j<n->a j<b j)->(∀j,j<n->a' j<b j)->gF b a n=gF b a' n->∀j,j<n->a j=a' j
 | 0,_,_,_,j,hj=>absurd hj (Ib j)
 | n+1,h,h',e,j,hj=>by{(have l1:=OC (n:=n) fun j hj=>h j ia);(have l2:=OC (n:=n) fun j hj=>h' j ia);rw[gF,gF]at e;have hn:a n=a' n:=by{(rcases Ue (a n) (a' n)with q | q | q);{have:(a n+1)*yi b n<=a' n*yi b n:=ye _ q;rw[Ee]at this;omega};{exact q};{have:(a' n+1)*yi b n<=a n*yi b n:=ye _ q;rw[Ee]at this;omega}};rw[hn]at e;(rcases Kc j n with h1 | h1);{exact IJ (fun j hj=>h j ia) (fun j hj=>h' j ia) ia j h1};{(have:j=n:=ia);rw[this];exact hn}}
section
variable {nf : Nat} {lo hi : Nat -> Int} {t : List Dn} {M : Nat -> (Nat -> Int) -> Bool}
theorem iF (g:Te nf lo hi t M){k:Nat}(hk:k<t.length)(h:(t.getD k default).kids≠[])
  (hc:∀c v,ee nf lo hi c->lo (t.getD k default).fact.toNat<=v->v<=hi (t.getD k default).fact.toNat->M k (Yl c (t.getD k default).fact.toNat v)=M k c):False:=by
 have hin:=(g.table k hk).inner h
 obtain⟨c0,cs,hcs⟩:∃c0 cs,(t.getD k default).Ja=c0::cs:=by{cases e:(t.getD k default).Ja with| nil=>exact absurd e hin.2.2.2.1| cons a l=>exact⟨a,l,rfl⟩}
 have hlen:=hin.2.2.2.2.1;have hch:=hin.2.2.2.2.2.1
 obtain⟨k0,k1,ks,Qv⟩:∃k0 k1 ks,(t.getD k default).kids=k0::k1::ks:=by{rw[hcs]at hlen;cases e:(t.getD k default).kids with| nil=>rw[e]at hlen;simp at hlen| cons a l=>{cases l with| nil=>rw[e]at hlen;simp at hlen| cons b l=>exact⟨a,b,l,rfl⟩}}
 have hlh:=g.dom _ hin.2.2.1;rw[hcs]at hch
 have e0:wg (t.getD k default) (lo (t.getD k default).fact.toNat)=k0:=by{unfold wg;rw[hcs,Ll hch,Qv];rfl}
 have e1:wg (t.getD k default) c0=k1:=by{unfold wg;rw[hcs,Th (Jc _),Ll hch.2.2,Qv];rfl}
 have h0:=hin.2.2.2.2.2.2.2 k0 (by rw[Qv];simp);have h1:=hin.2.2.2.2.2.2.2 k1 (by rw[Qv];simp)
 have key:k0.toNat=k1.toNat:=by{(refine g.one h0.2.1 h1.2.1 fun c fc=>?_);have m0:=Wj g.table g.reads hk h (v:=lo (t.getD k default).fact.toNat) (Jc _) hlh fc;have m1:=Wj g.table g.reads hk h (v:=c0) (by have:=hch.1;omega) hch.2.1 fc;rw[e0]at m0;rw[e1]at m1;rw[m0,m1,hc c _ fc (Jc _) hlh,hc c _ fc (by have:=hch.1;omega) hch.2.1]}
 have iO:=hin.2.2.2.2.2.2.1;rw[Qv]at iO;have:=h0.1;have:=h1.1;exact iO.1 ia
end
variable {d : List Fa}
def Co (d:List Fa)(f:Fo)(i:Nat):Nat:=(gl d i f).length
def ol (d:List Fa)(f:Fo):Nat:=yi (Co d f) d.length
theorem gy (hd:Ih d)(f:Fo){i:Nat}(hi:i<d.length):1<=Co d f i:=by
 obtain⟨ss,e,_⟩:=th (Zr d i) (hd.Fq i hi).2.1 f;unfold Co gl;rw[e];simp
theorem gW (hd:Ih d){f0 s:Fo}{i:Nat}(h:Vl d f0 i s)(hi:i<d.length)(h1:Co d f0 i=1)(c:Nat->Int)(v:Int)(fc:ee d.length (Pe d) (Mh d) c)(v1:Pe d i<=v)(v2:v<=Mh d i):
  ve d (Yl c i v) s=ve d c s:=by
 obtain⟨ss,e1,e2,e3⟩:=uB hd h hi
 have hs:ss=[]:=by{cases ss with| nil=>rfl| cons a l=>{exfalso;have ha:a∈gl d i f0:=dO hd (fun t ht=>(h.tests t ht).1) hi (by rw[e1];simp);obtain⟨ss',eW,_,_⟩:=th (Zr d i) (hd.Fq i hi).2.1 f0;have eW:gl d i f0=Pe d i::ss':=eW;unfold Co at h1;rw[eW]at h1 ha;(have:ss'=[]:=by simpa using h1);subst this;have:=e2.1;simp at ha;omega}}
 subst hs;have a1:=e3 c fc;have a2:=e3 _ (Hj fc v1 v2);rw[tv]at a1 a2;rw[a1,a2];obtain⟨q1,_,_,q4⟩:=fx d (Zr d i) ((Pe d i::([]:List Int)).getD 0 0) s.size s (ja _) h.wf;have hr:=Zw hd h hi (v:=Pe d i) (by rw[e1];simp);obtain⟨vs,VM,_,hval⟩:=hr.from_
 show ve d (Yl c i v) (mq d i s (Pe d i))=ve d c (mq d i s (Pe d i))
 rw[hval _ fc,hval _ (Hj fc v1 v2)];congr 1
 funext j;unfold Yl;by_cases hj:j<i+1
 {rw[if_pos hj,if_pos hj]}
 {rw[Aa hj,Aa hj,Aa ia]}
def PH (d:List Fa)(f0:Fo)(i:Nat)(vs:List Int)(j:Nat):Nat:=if j<i then(gl d j f0).idxOf (vs.getD j 0)else if j=i then 1 else 0
theorem VK (hd:Ih d){f0:Fo}{m:List Dn}{dn:List (ByteArray×Nat)}(h:Nn d.length (Pe d) (Mh d) (fun s c=>ve d c s) il (Vl d f0) m dn):m.length<=ol d f0+2:=by
 have hdom:∀i,i<d.length->Pe d i<=Mh d i:=fun i hi=>(hd.Fq i hi).2.1
 have g:=h.made.dh hdom
 refine xB h.made hdom _ (fun k z=>∃i vs,i<d.length/\ 2<=Co d f0 i/\ vs.length=i/\ (∀j,j<i->vs.getD j 0∈gl d j f0)/\ z=gF (Co d f0) (PH d f0 i vs) d.length/\
  ∀c,ee d.length (Pe d) (Mh d) c->xg m k c=ve d (fun j=>if j<i then vs.getD j 0 else c j) f0) ?_ ?_
 {intro k hk hkk;obtain⟨i,s,hR,hfact,jO⟩:=h.from_ k hk hkk;have hin:=(h.made.table k hk).inner hkk;(have hi:i<d.length:=by have:=hin.2.2.1;rw[hfact,Gb]at this;exact this);have h2:2<=Co d f0 i:=by{have h1:=gy hd f0 hi;(rcases Kc (Co d f0 i) 2 with hlt | hge);{exfalso;(refine iF g hk hkk fun c v fc v1 v2=>?_);rw[hfact,Gb]at v1 v2⊢;rw[jO _ (Hj fc v1 v2),jO _ fc];exact gW hd hR hi ia c v fc v1 v2};{exact hge}};obtain⟨vs,v1,v2,v3⟩:=hR.from_;refine⟨_,?_,i,vs,hi,h2,v1,v2,rfl,fun c fc=>by rw[jO c fc,v3 c fc]⟩;(refine OC fun j hj=>?_);unfold PH;(split);{next hji=>exact Ub (v2 j hji)};{(split);{next hji=>rw[hji];omega};{have:=gy hd f0 hj;omega}}}
 {rintro k k' z hk hk' ⟨i,vs,h1,h2,h3,h4,h5,h6⟩ ⟨i',vs',h1',P8,h3',Q8,h5',h6'⟩ c fc;have hb:∀ {i:Nat} {vs:List Int},2<=Co d f0 i->(∀j,j<i->vs.getD j 0∈gl d j f0)->∀j,j<d.length->PH d f0 i vs j<Co d f0 j:=by{intro i vs h2 h4 j hj;unfold PH;(split);{next hji=>exact Ub (h4 j hji)};{(split);{next hji=>rw[hji];omega};{have:=gy hd f0 hj;omega}}};have Tm:=IJ (hb h2 h4) (hb P8 Q8) (h5.symm.trans h5');have hii:i=i':=by{(rcases Ue i i' with q | q | q);{have:=Tm i' h1';unfold PH at this;rw[Aa ia,Aa ia,Aa ia,if_pos rfl]at this;omega};{exact q};{have:=Tm i h1;unfold PH at this;rw[Aa ia,if_pos rfl,Aa ia,Aa ia]at this;omega}};subst hii;rw[h6 c fc,h6' c fc];congr 1;funext j;by_cases hj:j<i;{rw[if_pos hj,if_pos hj];have:=Tm j ia;unfold PH at this;rw[if_pos hj,if_pos hj]at this;have e1:=Dd (Ub (h4 j hj));have e2:=Dd (Ub (Q8 j hj));rw[<-e1, <-e2];congr 1};{rw[Aa hj,Aa hj]}}
end
end Go.Proofs.YtejbgoigkefnfaaGreatDoor
