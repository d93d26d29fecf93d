/- Plain core of chapter 11: the diagram that Build makes; what Valid asks of a diagram. No program. -/
import Derived.Test.YtejbgoigkefnfaaGreatDoorAl
import Derived.Test.YtejbgoigkefnfaaGreatDoorDgST
import Derived.Test.YtejbgoigkefnfaaGreatDoorHoldsA
namespace Go.Proofs.YtejbgoigkefnfaaGreatDoor
theorem bB :∀(ks:List Fo) (k:Fo),k∈ks->k.size<=Fo.Tc ks
 | [],_,h=>by cases h
 | a::l,k,h=>by{rw[Fo.Tc];(rcases List.mem_cons.1 h with rfl | h);{omega};{have:=bB l k h;omega}}
theorem Xt (p:Fo->Bool):∀ks:List Fo,Fo.Tc (ks.filter p)<=Fo.Tc ks
 | []=>ja _
 | a::l=>by{have:=Xt p l;rw[Qh];(split);{rw[Fo.Tc,Fo.Tc];omega};{rw[Fo.Tc];omega}}
theorem cB (op u z:Int)(l:List Fo):(en op u z l).size<=Fo.Tc l+1:=by
 unfold en;cases h:l.find? (fun k=>k.op==z)with
 | some k=>have:=bB l k (List.mem_of_find?_eq_some h);dsimp only;omega
 | none=>
  dsimp only
  have hf:=Xt (fun k=>k.op !=u) l;generalize l.filter (fun k=>k.op !=u)=fs at*
  match fs,hf with| [],_=>rw[Fo.size,Fo.Tc];omega| [k],hf=>rw[Fo.Tc,Fo.Tc]at hf;dsimp only;omega| a::b::r,hf=>dsimp only;rw[Fo.size];omega
theorem NE (d:List Fa)(nm:ByteArray)(x:Int):∀(N:Nat) (f:Fo),f.size<=N->Kj d f->(jg nm x f).size<=f.size:=by
 intro N
 induction N with
 | zero=>intro f h;obtain⟨op,s,c,n,ks⟩:=f;rw[Fo.size]at h;omega
 | succ N ih=>
  intro f h hw;obtain⟨op,s,c,n,ks⟩:=f;have hk:=Ak op c n s ks;have hpos:1<=(Fo.mk op s c n ks).size:=by rw[Fo.size];omega
  have hkn:∀b,(xj b).size=1:=fun b=>by unfold xj;rw[Fo.size,Fo.Tc]
  have hL:pR d ks->Fo.Tc (Yt nm x ks)<=Fo.Tc ks:=by{intro hw;rw[Zt];have:∀l:List Fo,(∀k∈l,k∈ks)->Fo.Tc (l.map (jg nm x))<=Fo.Tc l:=by{intro l;induction l with| nil=>intro _;exact ja _| cons a l ihl=>{intro hm;have h1:=ih a (by have:=hk a (hm a (Na ..));omega) ((si d ks).1 hw a (hm a (Na ..)));(have h2:=ihl fun k hk=>hm k (La _ hk));rw[Va,Fo.Tc,Fo.Tc];omega}};exact this ks fun _ h=>h}
  rw[Kj]at hw;rw[jg];rcases hw with⟨h1,rfl,rfl,rfl,rfl⟩ | ⟨rfl,_,_,_,_,rfl⟩ | ⟨h1,rfl,rfl,rfl,h2⟩
  {(have:op≠3/\ op≠5/\ op≠6/\ op≠7:=ia);rw[Aa this.1,Aa this.2.1,Aa this.2.2.1,Aa this.2.2.2];exact ja _}
  {rw[if_pos rfl];(split);{rw[hkn];exact hpos};{exact ja _}}
  ·have hs:=hL h2
   rcases h1 with⟨rfl,hl⟩ | ⟨h1,hl⟩
   ·rw[Aa pa,if_pos rfl]
    match ks,hl with| [k],_=>{rw[Yt,Yt,Fo.Tc,Fo.Tc,Fo.Tc,Fo.Tc]at hs;simp only[Yt,List.headD_cons];unfold Yu;(split);{rw[hkn];exact hpos};{rw[Fo.size,Fo.Tc,Fo.Tc,Fo.size,Fo.Tc,Fo.Tc];omega}}
   {(rcases h1 with rfl | rfl);{rw[Aa pa,Aa pa,if_pos rfl];have:=cB 6 1 2 (Yt nm x ks);rw[Fo.size];omega};{rw[Aa pa,Aa pa,Aa pa,if_pos rfl];have:=cB 7 2 1 (Yt nm x ks);rw[Fo.size];omega}}
theorem EN (op c n:Int)(nm:ByteArray)(h1:yj op)(h2:yj c)(h3:yj n)(h:nm.size<=24):(ln op c n nm).length<=100:=FN op c n nm h1 h2 h3 h
theorem WA (d:List Fa):∀(N:Nat) (f:Fo),f.size<=N->Kj d f->(Wf f).length<=101*f.size:=by
 intro N
 induction N with| zero=>intro f h;obtain⟨op,s,c,n,ks⟩:=f;rw[Fo.size]at h;omega| succ N ih=>{intro f h hw;obtain⟨op,s,c,n,ks⟩:=f;have hk:=Ak op c n s ks;have w0:yj 0:=⟨pa,pa⟩;have hL:pR d ks->(we ks).length<=101*Fo.Tc ks:=by{intro hw;have:∀l:List Fo,(∀k∈l,k∈ks)->(we l).length<=101*Fo.Tc l:=by{intro l;induction l with| nil=>intro _;exact ja _| cons a l ihl=>{intro hm;have h1:=ih a (by have:=hk a (hm a (Na ..));omega) ((si d ks).1 hw a (hm a (Na ..)));(have h2:=ihl fun k hk=>hm k (La _ hk));rw[we,Fo.Tc,Ea];omega}};exact this ks fun _ h=>h};have fin:∀ {op c n:Int} {s:ByteArray} {ks:List Fo},yj op->yj c->yj n->s.size<=24->(we ks).length<=101*Fo.Tc ks->(Wf (.mk op s c n ks)).length<=101*(Fo.mk op s c n ks).size:=by{intro op c n s ks h1 h2 h3 h4 h5;have:=EN op c n s h1 h2 h3 h4;rw[ny,Ea,Ea,Fo.size];simp only[ib,Cc];omega};rw[Kj]at hw;(rcases hw with⟨h1,rfl,rfl,rfl,rfl⟩ | ⟨rfl,h1,h2,h3,_,rfl⟩ | ⟨h1,rfl,rfl,rfl,h2⟩);{exact fin ⟨ia,ia⟩ w0 w0 pa (by simp[we])};{exact fin ⟨pa,pa⟩ ⟨ia,ia⟩ ⟨ia,ia⟩ (by unfold Hd at h3;simp only[ub,decide_eq_true_eq]at h3;exact h3.2) (by simp[we])};{exact fin ⟨ia,ia⟩ w0 w0 pa (hL h2)}}
section
variable {d : List Fa}
def stepG (d:List Fa)(f i:Nat)(s:Fo)(st:(List Dn×List (ByteArray×Nat))×List Int)(v:Int):(List Dn×List (ByteArray×Nat))×List Int:=
 ((qj d f st.1.1 st.1.2 (i+1) (mq d i s v)).1,st.2++[((qj d f st.1.1 st.1.2 (i+1) (mq d i s v)).2:Int)])
def Tn (d:List Fa)(f:Nat)(m:List Dn)(dn:List (ByteArray×Nat))(i:Nat)(s:Fo)(l:List Int):(List Dn×List (ByteArray×Nat))×List Int:=l.foldl (stepG d f i s) ((m,dn),[])
theorem TE (f:Nat){m:List Dn}{dn:List (ByteArray×Nat)}{i:Nat}{s:Fo}{bl:Bool}(hc:Wl s=some bl):qj d (f+1) m dn i s=(((Md m ⟨0,[],[],bl⟩).1,dn),(Md m ⟨0,[],[],bl⟩).2):=by
 unfold qj Uk;rw[hc]
theorem UE (f:Nat){m:List Dn}{dn:List (ByteArray×Nat)}{i:Nat}{s:Fo}{k:Nat}(hc:Wl s=none)(hm:m.length<=20000)(hi:i<d.length)(hk:dn.lookup (il i s)=some k):qj d (f+1) m dn i s=((m,dn),k):=by
 unfold qj Uk;rw[hc]
 dsimp only
 rw[Aa ia,hk]
theorem ME (f:Nat){m:List Dn}{dn:List (ByteArray×Nat)}{i:Nat}{s:Fo}(hc:Wl s=none)(hm:m.length<=20000)(hi:i<d.length)(hk:dn.lookup (il i s)=none):
  qj d (f+1) m dn i s=(((Mc (Tn d f m dn i s (gl d i s)).1.1 i (gl d i s) (Tn d f m dn i s (gl d i s)).2).1,
   (il i s,(Mc (Tn d f m dn i s (gl d i s)).1.1 i (gl d i s) (Tn d f m dn i s (gl d i s)).2).2)::(Tn d f m dn i s (gl d i s)).1.2),(Mc (Tn d f m dn i s (gl d i s)).1.1 i (gl d i s) (Tn d f m dn i s (gl d i s)).2).2):=by
 conv=>lhs;unfold qj Uk
 rw[hc]
 dsimp only
 rw[Aa ia,hk]
 rfl
theorem jy (f:Nat)(m:List Dn)(dn:List (ByteArray×Nat))(i:Nat)(s:Fo)(l:List Int)(k:Nat)(hk:k<l.length):Tn d f m dn i s (l.take (k+1))=stepG d f i s (Tn d f m dn i s (l.take k)) l[k]:=by
 unfold Tn;rw[Ka hk,Od]
 rfl
structure VV (d : List Fa) (f0 : Fo) (n : Nat) (r : (List Dn × List (ByteArray × Nat)) × List Int) : Prop where
 inv:Nn d.length (Pe d) (Mh d) (fun s c=>ve d c s) il (Vl d f0) r.1.1 r.1.2
 len:r.2.length=n
 kids:∀x∈r.2,0<=x/\ x<=20000
theorem UR (hd:Ih d){f0:Fo}(hcap:∀m dn,Nn d.length (Pe d) (Mh d) (fun s c=>ve d c s) il (Vl d f0) m dn->m.length<=20000){f:Nat}{m:List Dn}{dn:List (ByteArray×Nat)}{i:Nat}{s:Fo}
  (hI:Nn d.length (Pe d) (Mh d) (fun s c=>ve d c s) il (Vl d f0) m dn) (hR:Vl d f0 i s) (hi:i<d.length) (hf:d.length-(i+1)<f):
  ∀k,k<=(gl d i s).length->VV d f0 k (Tn d f m dn i s ((gl d i s).take k)):=by
 intro k
 induction k with| zero=>intro _;exact⟨hI,rfl,fun x hx=>by cases hx⟩| succ k ih=>{intro hk;(have dl:k<(gl d i s).length:=ia);rw[jy f m dn i s _ k dl];have hv:=Ga dl;obtain⟨h1,h2,h3⟩:=ih ia;clear ih;generalize(gl d i s)[k]=v at*;generalize Tn d f m dn i s ((gl d i s).take k)=r at*;obtain⟨g1,g2,_⟩:=WE hd hcap f r.1.1 r.1.2 (i+1) (mq d i s v) h1 (Zw hd hR hi hv) hf;have hl:=hcap _ _ g1;refine⟨g1,by simp[stepG,h2],fun x hx=>?_⟩;unfold stepG at hx;(rcases List.mem_append.1 hx with hx | hx);{exact h3 x hx};{have:=g2.lt;have hx:x=_:=List.mem_singleton.1 hx;rw[hx];omega}}
theorem Er :∀(l:List Int) (a:Int),(Io a l).length<=l.length
 | [],_=>ja _
 | b::l,a=>by{unfold Io;(split);{have:=Er l a;simp;omega};{have:=Er l b;simp;omega}}
theorem vH (i:Nat)(s:Fo):(gl d i s).length<=2*s.size+1:=by
 unfold gl Rn;have h1:=Zu (Zr d i) s
 have h2:∀l:List Int,(Ds l).length<=l.length:=by{intro l;cases l with| nil=>exact ja _| cons a l=>have:=Er l a;unfold Ds;simp;omega}
 refine Wa (h2 _) (Wa (tf _ _) ?_);rw[Kh]
 simp
 omega
theorem uN (hd:Ih d){i:Nat}(hi:i<d.length){s:Fo}{x:Int}(h:x∈gl d i s):0<=x/\ x<=1000000:=by
 have hl:=hd.Fq i hi;obtain⟨ss,e,_,em⟩:=th (Zr d i) hl.2.1 s;unfold gl at h;rw[e,em]at h;omega
end
theorem Xs {a b:ByteArray}:Ni a b=true↔a=b:=by
 unfold Ni;rw[<-jv];simp
theorem dB :∀(d:List Fa) (l:List (ByteArray×Bool)),jl d l=true->∀i,(h:i<d.length)->(Jo d[i] || ll d[i])=true/\ Hd d[i].name=true/\ l.lookup d[i].name=none/\ ∀j,(hj:j<d.length)->j<i->d[j].name≠d[i].name
 | [],_,_,i,h=>absurd h (Ib i)
 | f::d,l,ho,i,h=>by
  rw[jl]at ho;simp only[ub]at ho;obtain⟨⟨⟨h1,h2⟩,h3⟩,h4⟩:=ho;have ih:=dB d _ h4
  match i,h with
  | 0,_=>exact⟨h1,h2,by simpa using h3,fun j _ hj=>absurd hj (Ib j)⟩
  | i+1,h=>
   have hi:i<d.length:=by simpa using h
   obtain⟨q1,q2,q3,q4⟩:=ih i hi
   have hl:∀(l:List (ByteArray×Bool)) (k:ByteArray),(l++[(f.name,true)]).lookup k=none->l.lookup k=none/\ k≠f.name:=by{intro l;induction l with| nil=>{intro k hk;rw[Ya,Db]at hk;refine⟨rfl,?_⟩;rintro rfl;simp at hk}| cons a l ih=>{intro k hk;obtain⟨x,y⟩:=a;rw[Sb,Db]at hk;rw[Db];by_cases e:(k==x)=true;{rw[e]at hk;cases hk};{(have e:(k==x)=false:=by simpa using e);rw[e]at hk⊢;exact ih k hk}}}
   obtain⟨q5,q6⟩:=hl l _ q3;refine⟨by simpa using q1,by simpa using q2,by simpa using q5,?_⟩;intro j hj hji
   match j,hj,hji with| 0,_,_=>simpa using fun e=>q6 (Eq.symm e)| j+1,hj,hji=>simpa using q4 j (by simpa using hj) ia
theorem eB (s:ByteArray):∀(d:List Fa) (k:Int) (i:Nat) (h:i<d.length),d[i].name=s->(∀j,(hj:j<d.length)->j<i->d[j].name≠s)->idxFrom (fun f:Fa=>Ni f.name s) d k=k+i
 | f::d,k,0,_,hs,_=>by{rw[idxFrom];have hs:f.name=s:=hs;rw[if_pos (Xs.2 hs)];simp}
 | f::d,k,i+1,h,hs,hn=>by{rw[idxFrom];have h0:f.name≠s:=hn 0 la ia;rw[Aa (fun e=>h0 (Xs.1 e)),eB s d (k+1) i (by simpa using h) hs (fun j hj hji=>hn (j+1) (by simp;omega) ia)];omega}
theorem mg {d:List Fa}(h:Hf d=true):Ih d:=by
 unfold Hf at h;simp only[ub,decide_eq_true_iff]at h;have h1:=dB d [] h.1;refine⟨h.2,fun i hi=>?_,fun i hi=>?_⟩
 {obtain⟨_,q2,_,q4⟩:=h1 i hi;(have e:Zr d i=d[i].name:=by unfold Zr;rw[Eb _ _ _ hi]);rw[e];refine⟨?_,q2⟩;unfold tg;rw[eB _ d 0 i hi rfl q4];omega}
 {obtain⟨q1,_⟩:=h1 i hi;(have e1:Pe d i=d[i].lo:=by unfold Pe;rw[Eb _ _ _ hi]);(have e2:Mh d i=d[i].hi:=by unfold Mh;rw[Eb _ _ _ hi]);rw[e1,e2];unfold Jo ll at q1;simp only[li,ub,Ad,decide_eq_true_iff]at q1;omega}
theorem GN {d:List Fa}:∀(N:Nat) (f:Fo),f.size<=N->(∀x∈qf f,Le d (fun _=>false) x=0)->Kj d f:=by
 intro N
 induction N with
 | zero=>intro f h;have:=f.size_pos;omega
 | succ N ih=>
  intro f hN hg;obtain⟨op,nm,c,n,ks⟩:=f;have h0:=hg _ (Nq _)
  have HK:∀k∈ks,Kj d k:=fun k hk=>by{(refine ih k ?_ fun x hx=>hg x ?_);{obtain⟨j,hj,rfl⟩:=zb hk;have:=Fo.fg ks j hj;rw[Fo.size]at hN;omega};{rw[qf];exact La _ (bw ks k x hk hx)}}
  have HR:Le d (fun _=>false) (.mk op nm c n ks)=if Gg (.mk op nm c n ks)=false then 1 else if op=3/\ (n<0\/1000000<n)then 10 else if(op=3/\ tg d nm<0)\/(op=4/\ false=false)then 7 else 0:=rfl;rw[HR]at h0;clear HR;by_cases hf:Gg (.mk op nm c n ks)=false
  {rw[if_pos hf]at h0;cases h0}
  rw[Aa hf]at h0;by_cases hr:op=3/\ (n<0\/1000000<n)
  {rw[if_pos hr]at h0;cases h0}
  rw[Aa hr]at h0;by_cases hi:(op=3/\ tg d nm<0)\/(op=4/\ false=false)
  {rw[if_pos hi]at h0;cases h0}
  have hf:Gg (.mk op nm c n ks)=true:=by simpa using hf
  have HF:Gg (.mk op nm c n ks)=if eu (.mk op nm c n ks)=true then false
   else if op=1\/op=2 then decide (ks.length=0)
   else if op=3 then((decide (ks.length=0)&& Hd nm)&& decide (1<=c))&& decide (c<=6)
   else if op=4 then decide (ks.length=0)&& Hd nm
   else if op=5 then decide (ks.length=1)
   else if op=6\/op=7 then decide (2<=ks.length)
   else false:=rfl
  rw[HF]at hf;by_cases hb:eu (.mk op nm c n ks)=true
  {rw[if_pos hb]at hf;cases hf}
  rw[Aa hb]at hf
  have hb:(((op !=3)&& ((c !=0) || (n !=0))) || (((op !=3)&& (op !=4))&& !nm.toList.isEmpty))=false:=by{have:eu (.mk op nm c n ks)=(((op !=3)&& ((c !=0) || (n !=0))) || (((op !=3)&& (op !=4))&& !nm.toList.isEmpty)):=rfl;rw[<-this];simpa using hb}
  have h4:op≠4:=fun e=>hi (.inr ⟨e,rfl⟩)
  have JN:op≠3->nm=qe/\ c=0/\ n=0:=by{intro h3;(have e3:(op !=3)=true:=by simpa using h3);(have e4:(op !=4)=true:=by simpa using h4);rw[e3,e4,Bk]at hb;simp at hb;refine⟨?_,hb.1.1,hb.1.2⟩;obtain⟨⟨a⟩⟩:=nm;have hz:a=[]:=by{have:=congrArg (fun x:ByteArray=>x.data.toList) hb.2;exact this};subst hz;rfl}
  rw[Kj];by_cases h12:op=1\/op=2
  {rw[if_pos h12]at hf;obtain⟨a1,a2,a3⟩:=JN ia;exact .inl ⟨h12,a1,a2,a3,by simpa using hf⟩}
  rw[Aa h12]at hf;by_cases h3:op=3
  {rw[if_pos h3]at hf;simp only[ub,decide_eq_true_iff]at hf;(have h5:¬tg d nm<0:=fun e=>hi (.inl ⟨h3,e⟩));refine .inr (.inl ⟨h3,⟨hf.1.2,hf.2⟩,?_,hf.1.1.2,⟨(tg d nm).toNat,ia,?_⟩,by simpa using hf.1.1.1⟩);{(have:¬(n<0\/1000000<n):=fun e=>hr ⟨h3,e⟩);omega};{(rcases Ys (fun f:Fa=>Ni f.name nm) d 0 with h6 | h6);{exact absurd (show tg d nm<0 by unfold tg;omega) h5};{unfold tg at*;omega}}}
  rw[Aa h3,Aa h4]at hf;obtain⟨a1,a2,a3⟩:=JN h3;by_cases h5:op=5
  {rw[if_pos h5]at hf;exact .inr (.inr ⟨.inl ⟨h5,by simpa using hf⟩,a1,a2,a3,(si d ks).2 HK⟩)}
  rw[Aa h5]at hf;by_cases h6:op=6\/op=7
  {rw[if_pos h6]at hf;exact .inr (.inr ⟨.inr ⟨h6,by simpa using hf⟩,a1,a2,a3,(si d ks).2 HK⟩)}
  {rw[Aa h6]at hf;cases hf}
theorem oy {d:List Fa}{kn:ByteArray->Bool}:∀l,gd d kn l=0->∀x∈l,Le d kn x=0
 | [],_,x,hx=>by cases hx
 | a::l,h,x,hx=>by{rw[gd]at h;by_cases ha:Le d kn a=0;{rw[if_pos ha]at h;(rcases List.mem_cons.1 hx with rfl | hx);{exact ha};{exact oy l h x hx}};{rw[Aa ha]at h;exact absurd h ha}}
theorem Un {d:List Fa}{kn:ByteArray->Bool}{f:Fo}(h:Qe f d kn=0):f.size<=200/\ f.depth<=20/\ ∀x∈qf f,Le d kn x=0:=by
 unfold Qe at h
 split at h
 {cases h}
 {exact⟨ia,ia,oy _ h⟩}
theorem zi {d:List Fa}{f:Fo}(h:Qe f d (fun _=>false)=0):Kj d f:=GN f.size f (ja _) (Un h).2.2
theorem CH {d:List Fa}{f:Fo}(h:Qe f d (fun _=>false)=0):Qe f d (fun _=>true)=0:=by
 obtain⟨h1,h2,h3⟩:=Un h;unfold Qe;rw[Aa ia];refine Bs _ _ _ fun y hy=>?_
 have:=h3 y hy;unfold Le at this⊢
 split at this
 {cases this}
 {rename_i e1;rw[Aa e1];(split at this);{cases this};{rename_i e2;rw[Aa e2];(split at this);{cases this};{rename_i e3;rw[Aa];rintro(h | h);{exact e3 (.inl h)};{cases h.2}}}}
theorem KN (d:List Fa)(c:List Int):∀(N:Nat) (f:Fo),f.size<=N->um d c [] f=ve d (fun i=>c.getD i 0) f:=by
 intro N
 induction N with| zero=>intro f h;have:=f.size_pos;omega| succ N ih=>{intro f hN;obtain⟨op,s,m,n,ks⟩:=f;have hm:py d c [] ks=Jl d (fun i=>c.getD i 0) ks:=by{rw[Kr,Kl];(refine Ye fun k hk=>ih k ?_);obtain⟨j,hj,rfl⟩:=zb hk;have:=Fo.fg ks j hj;rw[Fo.size]at hN;omega};rw[um,ve,hm];by_cases h4:op=4;{subst h4;simp};{rw[Aa h4]}}
structure adO (d : List Fa) (l : List (ByteArray × Bool)) : Prop where
 nodup:(l.map (·.1)).Nodup
 known:∀p∈l,∃k:Nat,tg d p.1=k/\ k<d.length
section
variable {d : List Fa}
def sj (d:List Fa)(f:Fo):(List Dn×List (ByteArray×Nat))×Nat:=qj d (d.length+1) [] [] 0 (jg qe 0 f)
def vh (d:List Fa)(f:Fo):List Dn:=ue (sj d f).1.1 (Yb (sj d f).1.1 (d.length+1) [] (sj d f).2)
def Jd (d:List Fa)(f:Fo):List Dn×Int:=
 if Hf d=false\/Qe f d (fun _=>false)≠0 then([],1)else if 24<(zk f []).length then([],2)else(vh d f,0)
structure Gp (d : List Fa) (f : Fo) : Prop where
 cap:∀m dn,Nn d.length (Pe d) (Mh d) (fun s c=>ve d c s) il (Vl d f) m dn->m.length<=20000
 inv:Nn d.length (Pe d) (Mh d) (fun s c=>ve d c s) il (Vl d f) (sj d f).1.1 (sj d f).1.2
 root:Vn d.length (Pe d) (Mh d) (fun s c=>ve d c s) (sj d f).1.1 0 (jg qe 0 f) (sj d f).2
theorem built (hd:Ih d){f:Fo}(hw:Kj d f)(hc:ol d f<=19998):Gp d f:=by
 have hcap:∀m dn,Nn d.length (Pe d) (Mh d) (fun s c=>ve d c s) il (Vl d f) m dn->m.length<=20000:=fun m dn h=>by{have:=VK hd h;omega}
 obtain⟨h1,h2,_⟩:=WE hd hcap (d.length+1) [] [] 0 (jg qe 0 f) (aB f) (Jr hw) ia;exact⟨hcap,h1,h2⟩
theorem qy (hd:Ih d):∀i,i<d.length->Pe d i<=Mh d i:=fun i hi=>(hd.Fq i hi).2.1
theorem Su {hi:Int}:∀(l:List Int) (lo:Int),Xe hi lo l->lo<=hi->(l.length:Int)<=hi-lo
 | [],_,_,h=>by simp;omega
 | c::l,lo,hc,_=>by{have:=Su l c hc.2.2 hc.2.1;have:=hc.1;simp;omega}
theorem Sj (hd:Ih d){t:List Dn}(hT:Lg d.length (Pe d) (Mh d) t):∀n∈t,n.kids.length<=1000001/\ n.Ja.length<=1000000:=by
 intro n hn;obtain⟨k,hk,rfl⟩:=zb hn;have hp:=hT k hk;rw[Eb _ _ _ hk]at hp;by_cases h:t[k].kids=[]
 {rw[h,(hp.leaf h).2];simp}
 {have hin:=hp.inner h;have hl:=hd.Fq _ hin.2.2.1;have:=Su _ _ hin.2.2.2.2.2.1 hl.2.1;rw[hin.2.2.2.2.1];omega}
theorem Zs (hd:Ih d){f:Fo}(hw:Kj d f)(hb:Gp d f):∃M,Te d.length (Pe d) (Mh d) (vh d f) M/\ (∀c,ee d.length (Pe d) (Mh d) c->M 0 c=ve d c f)/\ 0<(vh d f).length/\ (vh d f).length<=20000/\
  ue (vh d f) (Yb (vh d f) (d.length+1) [] 0)=vh d f:=by
 have g:=hb.inv.made.dh (qy hd);have hx:=hb.root.lt;obtain⟨ho,u,hu⟩:=Hl g.table hx (f:=d.length+1) ia;have hlen:(vh d f).length=(Yb (sj d f).1.1 (d.length+1) [] (sj d f).2).length:=by unfold vh ue;rw[Sa]
 have hle:(Yb (sj d f).1.1 (d.length+1) [] (sj d f).2).length<=(sj d f).1.1.length:=by{have:=Xc ho.nodup (l₂:=List.range (sj d f).1.1.length) (fun y hy=>List.mem_range.2 (ho.inside y hy));rwa[Pd]at this}
 have hcap:=hb.cap _ _ hb.inv;refine⟨_,Ir g ho,fun c fc=>?_,?_,ia,ay g hx ia⟩
 {show xg _ ((Yb (sj d f).1.1 (d.length+1) [] (sj d f).2).getD 0 0) c=_;rw[hu];show xg _ (sj d f).2 c=_;rw[hb.root.means c fc];obtain⟨vs,_,_,hv⟩:=(Jr hw).from_;rw[hv c fc];congr 1}
 {rw[hlen,hu];simp}
def mn (hi:Int):Int->List Int->Bool
 | _,[]=>true
 | last,c::l=>if c<=last\/hi<c then false else mn hi c l
theorem XE (hi:Int):∀(l:List Int) (last:Int),mn hi last l=true↔Xe hi last l
 | [],_=>⟨fun _=>trivial,fun _=>rfl⟩
 | c::l,last=>by{unfold mn Xe;rw[<-XE hi l c];(split);{constructor;{intro h;cases h};{intro h;omega}};{constructor;{intro h;exact⟨ia,ia,h⟩};{intro h;exact h.2.2}}}
def Ui (t:List Dn)(fact:Int):Option Int->List Int->Bool
 | _,[]=>true
 | p,k::l=>if k<0\/(t.length:Int)<=k\/p=some k\/((t.getD k.toNat default).kids≠[]/\ (t.getD k.toNat default).fact<=fact)then false else Ui t fact (some k) l
theorem YE (t:List Dn)(fact:Int):∀(l:List Int) (p:Option Int),Ui t fact p l=true↔(match p with | none=>Lw l | some a=>Lw (a::l))/\ ∀k∈l,0<=k/\ k.toNat<t.length/\ ((t.getD k.toNat default).kids≠[]->fact<(t.getD k.toNat default).fact)
 | [],p=>by{unfold Ui;cases p<;>simp[Lw]}
 | k::l,p=>by
  unfold Ui;have ih:=YE t fact l (some k)
  dsimp only at ih
  split
  ·next h=>
   constructor
   {intro h;cases h}
   {intro⟨h1,h2⟩;exfalso;obtain⟨a1,a2,a3⟩:=h2 k (Na ..);(rcases h with h | h | h | ⟨h,h'⟩);{omega};{omega};{subst h;exact h1.1 rfl};{have:=a3 h;omega}}
  ·next h=>
   rw[ih];constructor
   ·rintro⟨h1,h2⟩
    refine⟨?_,fun x hx=>?_⟩
    ·cases p with
     | none=>exact h1
     | some a=>exact⟨fun e=>h (.inr (.inr (.inl (by rw[e])))),h1⟩
    ·rcases List.mem_cons.1 hx with rfl | hx
     ·refine⟨ia,ia,fun hk=>?_⟩
      rcases(show fact<(t.getD x.toNat default).fact\/(t.getD x.toNat default).fact<=fact by omega)with q | q
      {exact q}
      {exact absurd (.inr (.inr (.inr ⟨hk,q⟩))) h}
     {exact h2 x hx}
   {rintro⟨h1,h2⟩;refine⟨?_,fun x hx=>h2 x (La _ hx)⟩;cases p with| none=>exact h1| some a=>exact h1.2}
def Xd (d:List Fa)(t:List Dn)(n:Dn):Bool:=
 if n.kids=[]then n.fact==0&& n.Ja.isEmpty
 else if n.leaf=true\/n.fact<0\/(d.length:Int)<=n.fact\/n.Ja=[]\/n.kids.length≠n.Ja.length+1 then false
 else mn (Mh d n.fact.toNat) (Pe d n.fact.toNat) n.Ja&& Ui t n.fact none n.kids
theorem ZE {nf:Nat}{n:Dn}{i:Nat}(hi:i<nf):i<Fb nf n↔(n.kids≠[]->i<n.fact.toNat):=by
 unfold Fb;by_cases h:n.kids=[]
 {rw[if_pos h];exact⟨fun _ h'=>absurd h h',fun _=>hi⟩}
 {rw[Aa h];exact⟨fun h' _=>h',fun h'=>h' h⟩}
theorem ry (d:List Fa)(t:List Dn)(n:Dn):Xd d t n=true↔Ap d.length (Pe d) (Mh d) t.length (fun j=>Fb d.length (t.getD j default)) n:=by
 unfold Xd;by_cases h:n.kids=[]
 {rw[if_pos h];simp only[ub,Ad,List.isEmpty_iff];exact⟨fun hh=>⟨fun _=>hh,fun h'=>absurd h h'⟩,fun hh=>hh.leaf h⟩}
 ·rw[Aa h]
  split
  ·next hb=>
   constructor
   {intro hh;cases hh}
   {intro hh;obtain⟨a1,a2,a3,a4,a5,_⟩:=hh.inner h;exfalso;(rcases hb with hb | hb | hb | hb | hb);{rw[a1]at hb;cases hb};{omega};{omega};{exact a4 hb};{exact hb a5}}
  ·next hb=>
   have Ff:n.leaf=false:=by{cases e:n.leaf with| false=>rfl| true=>exact absurd (.inl e) hb}
   have ud:0<=n.fact/\ n.fact.toNat<d.length:=by omega
   rw[ub,XE,YE]
   have hr:∀k:Int,(n.fact.toNat<Fb d.length (t.getD k.toNat default)↔((t.getD k.toNat default).kids≠[]->n.fact<(t.getD k.toNat default).fact)):=by{intro k;rw[ZE ud.2];constructor;{intro hh hk;have:=hh hk;omega};{intro hh hk;have:=hh hk;omega}}
   constructor
   {rintro⟨h1,h2,h3⟩;refine⟨fun h'=>absurd h' h,fun _=>⟨Ff,ud.1,ud.2,fun e=>hb (.inr (.inr (.inr (.inl e)))),?_,h1,h2,fun k hk=>?_⟩⟩;{omega};{obtain⟨b1,b2,b3⟩:=h3 k hk;exact⟨b1,b2,(hr k).2 b3⟩}}
   {intro hh;obtain⟨_,_,_,_,_,a6,a7,a8⟩:=hh.inner h;refine⟨a6,a7,fun k hk=>?_⟩;obtain⟨b1,b2,b3⟩:=a8 k hk;exact⟨b1,b2,(hr k).1 b3⟩}
theorem nv (d:List Fa)(t:List Dn):t.all (Xd d t)=true↔Lg d.length (Pe d) (Mh d) t:=by
 rw[Je];constructor
 {intro h k hk;refine(ry d t _).1 (h _ ?_);rw[Eb _ _ _ hk];exact Ga hk}
 {intro h n hn;obtain⟨k,hk,rfl⟩:=zb hn;have:=h k hk;rw[Eb _ _ _ hk]at this;exact(ry d t _).2 this}
def Re (d:List Fa)(t:List Dn):Bool:=
 Hf d&& !t.isEmpty&& decide (t.length<=20000)&& t.all (Xd d t)&& decide t.Nodup&& decide (ue t (Yb t (d.length+1) [] 0)=t)
structure te (d : List Fa) (t : List Dn) : Prop where
 dom:Hf d=true
 pos:0<t.length
 Yw:t.length<=20000
 table:Lg d.length (Pe d) (Mh d) t
 nodup:t.Nodup
 again:ue t (Yb t (d.length+1) [] 0)=t
theorem Nh {d:List Fa}{t:List Dn}:Re d t=true↔te d t:=by
 unfold Re;simp only[ub,decide_eq_true_iff,nv,sg,List.isEmpty_eq_false_iff];constructor
 {rintro⟨⟨⟨⟨⟨h1,h2⟩,h3⟩,h4⟩,h5⟩,h6⟩;exact⟨h1,List.length_pos_iff.2 h2,h3,h4,h5,h6⟩}
 {intro h;exact⟨⟨⟨⟨⟨h.dom,List.length_pos_iff.1 h.pos⟩,h.Yw⟩,h.table⟩,h.nodup⟩,h.again⟩}
def ug (d:List Fa)(t:List Dn):Nat->(Nat->Int)->Bool:=Wn t (d.length+1)
theorem te.dh {t:List Dn}(h:te d t):Te d.length (Pe d) (Mh d) t (ug d t):=uy h.table h.nodup (qy (mg h.dom))
theorem Qn (hv:Hf d=true){f:Fo}(hw:Kj d f)(hb:Gp d f):te d (vh d f):=by
 obtain⟨M,g,_,h1,h2,h3⟩:=Zs (mg hv) hw hb;exact⟨hv,h1,h2,g.table,g.nodup,h3⟩
theorem Ut {nf:Nat}{lo hi:Nat->Int}{t:List Dn}{M M':Nat->(Nat->Int)->Bool}(g:Te nf lo hi t M)(g':Te nf lo hi t M'):∀(N k:Nat),k<t.length->nf-Fb nf (t.getD k default)<=N->∀c,ee nf lo hi c->M k c=M' k c:=by
 intro N
 induction N with| zero=>{intro k hk hN c fc;rw[g.reads k hk c fc,g'.reads k hk c fc];by_cases h:(t.getD k default).kids=[];{rw[if_pos h,if_pos h]};{exfalso;have:=((g.table k hk).inner h).2.2.1;unfold Fb at hN;rw[Aa h]at hN;omega}}| succ N ih=>{intro k hk hN c fc;rw[g.reads k hk c fc,g'.reads k hk c fc];by_cases h:(t.getD k default).kids=[];{rw[if_pos h,if_pos h]};{rw[Aa h,Aa h];have hin:=(g.table k hk).inner h;obtain⟨b1,b2,b3⟩:=hin.2.2.2.2.2.2.2 _ (Oi (g.table k hk) h (c (t.getD k default).fact.toNat));refine ih _ b2 ?_ c fc;unfold Fb at hN b3⊢;rw[Aa h]at hN;omega}}
theorem Yv (hv:Hf d=true){f:Fo}(hw:Kj d f)(hb:Gp d f){c:Nat->Int}(fc:ee d.length (Pe d) (Mh d) c):ug d (vh d f) 0 c=ve d c f:=by
 obtain⟨M,g,h0,h1,_⟩:=Zs (mg hv) hw hb;rw[<-h0 c fc];exact Ut (Qn hv hw hb).dh g _ 0 h1 (ja _) c fc
theorem DH {t t':List Dn}(h:te d t)(h':te d t')(he:∀c,ee d.length (Pe d) (Mh d) c->ug d t 0 c=ug d t' 0 c):t=t':=by
 rw[<-h.again, <-h'.again];exact Hp h.dh h'.dh h.pos h'.pos he (d.length+1)
end
end Go.Proofs.YtejbgoigkefnfaaGreatDoor
