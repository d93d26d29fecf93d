/- Plain core of chapter 11: any table of proper nodes without doubles is good: its reading, with fuel. No program. -/
import Derived.Test.YtejbgoigkefnfaaGreatDoorAl
import Derived.BigQuiet
namespace Go.Proofs.YtejbgoigkefnfaaGreatDoor
section
structure Dn where
 fact:Int
 Ja:List Int
 kids:List Int
 leaf:Bool
deriving DecidableEq
instance : Inhabited Dn := ⟨⟨0, [], [], false⟩⟩
theorem Eb {α:Type}(l:List α)(i:Nat)(d:α)(h:i<l.length):l.getD i d=l[i]:=by
 rw[Ra,Pa h]
 rfl
def Yd (Ja:List Int)(v:Int):Nat:=Ja.findIdx fun c=>decide (v<c)
def wg (n:Dn)(v:Int):Int:=n.kids.getD (Yd n.Ja v) 0
def Xe (hi:Int):Int->List Int->Prop
 | _,[]=>True
 | lo,c::l=>lo<c/\ c<=hi/\ Xe hi c l
def Lw {α:Type}:List α->Prop
 | a::b::l=>a≠b/\ Lw (b::l)
 | _=>True
theorem tv (v:Int):Yd [] v=0:=rfl
theorem Gj {c v:Int}{l:List Int}(h:v<c):Yd (c::l) v=0:=by simp[Yd,List.findIdx_cons,h]
theorem Th {c v:Int}{l:List Int}(h:c<=v):Yd (c::l) v=Yd l v+1:=by
 have:¬v<c:=by omega
 simp[Yd,List.findIdx_cons,this]
theorem Ll {hi lo:Int}:∀ {l:List Int},Xe hi lo l->Yd l lo=0
 | [],_=>rfl
 | _::_,h=>Gj h.1
theorem aj (l:List Int)(v:Int):Yd l v<=l.length:=nh
theorem qn {α:Type}(z:α){hi:Int}:∀(l l':List Int) (lo:Int) (k k':List α),lo<=hi->Xe hi lo l->Xe hi lo l'->k.length=l.length+1->k'.length=l'.length+1->Lw k->Lw k'->
  (∀v,lo<=v->v<=hi->k.getD (Yd l v) z=k'.getD (Yd l' v) z)->l=l'/\ k=k'
 | l,l',lo,k,k',hlo,hl,eD,hk,hk',ha,ha',h=>by
  obtain⟨a,k,rfl⟩:∃a m,k=a::m:=by cases k with | nil=>simp at hk | cons a m=>exact⟨a,m,rfl⟩
  obtain⟨a',k',rfl⟩:∃a m,k'=a::m:=by cases k' with | nil=>simp at hk' | cons a m=>exact⟨a,m,rfl⟩
  have h0:=h lo (Jc _) hlo;rw[Ll hl,Ll eD]at h0;simp only[Nf]at h0;subst h0;cases l with
  | nil=>{(have:k=[]:=by simpa using hk);subst this;cases l' with| nil=>{(have:k'=[]:=by simpa using hk');subst this;exact⟨rfl,rfl⟩}| cons c' l'=>{exfalso;(obtain⟨b',k',rfl⟩:∃b m,k'=b::m:=by cases k' with | nil=>simp at hk' | cons a m=>exact⟨a,m,rfl⟩);have h1:=h c' (by have:=eD.1;omega) eD.2.1;rw[tv,Th (Jc _),Ll eD.2.2]at h1;exact ha'.1 (by simpa using h1)}}
  | cons c l=>
   obtain⟨b,k,rfl⟩:∃b m,k=b::m:=by cases k with | nil=>simp at hk | cons a m=>exact⟨a,m,rfl⟩
   have hc:=hl.1;have hch:=hl.2.1;have hcl:=hl.2.2;cases l' with
   | nil=>{exfalso;have h1:=h c ia hch;rw[tv,Th (Jc _),Ll hcl]at h1;exact ha.1 (by simpa using h1.symm)}
   | cons c' l'=>
    obtain⟨b',k',rfl⟩:∃b m,k'=b::m:=by cases k' with | nil=>simp at hk' | cons a m=>exact⟨a,m,rfl⟩
    have hc':=eD.1;have hch':=eD.2.1;have hcl':=eD.2.2;rcases Int.lt_trichotomy c c' with hlt | heq | hgt
    {exfalso;have h1:=h c ia hch;rw[Gj hlt,Th (Jc _),Ll hcl]at h1;exact ha.1 (by simpa using h1.symm)}
    ·subst heq
     have ih:=qn z l l' c (b::k) (b'::k') hch hcl hcl' (by simpa using hk) (by simpa using hk') ha.2 ha'.2 (by
      intro v h1 h2
      have h3:=h v ia h2
      rw[Th h1,Th h1]at h3
      simpa using h3)
     exact⟨by rw[ih.1],by rw[ih.2]⟩
    {exfalso;have h1:=h c' ia hch';rw[Gj hgt,Th (Jc _),Ll hcl']at h1;exact ha'.1 (by simpa using h1)}
termination_by l => l.length
def Fb (nf:Nat)(n:Dn):Nat:=if n.kids=[]then nf else n.fact.toNat
structure Ap (nf : Nat) (lo hi : Nat -> Int) (len : Nat) (rk : Nat -> Nat) (n : Dn) : Prop where
 leaf:n.kids=[]->n.fact=0/\ n.Ja=[]
 inner:n.kids≠[]->n.leaf=false/\ 0<=n.fact/\ n.fact.toNat<nf/\ n.Ja≠[]/\ n.kids.length=n.Ja.length+1/\ Xe (hi n.fact.toNat) (lo n.fact.toNat) n.Ja/\ Lw n.kids/\
  ∀k∈n.kids,0<=k/\ k.toNat<len/\ n.fact.toNat<rk k.toNat
def ee (nf:Nat)(lo hi:Nat->Int)(c:Nat->Int):Prop:=∀i,i<nf->lo i<=c i/\ c i<=hi i
def Yl (c:Nat->Int)(i:Nat)(v:Int):Nat->Int:=fun j=>if j=i then v else c j
def Lg (nf:Nat)(lo hi:Nat->Int)(t:List Dn):Prop:=∀k,k<t.length->Ap nf lo hi t.length (fun j=>Fb nf (t.getD j default)) (t.getD k default)
def Zq (nf:Nat)(lo hi:Nat->Int)(t:List Dn)(M:Nat->(Nat->Int)->Bool):Prop:=
 ∀k,k<t.length->∀c,ee nf lo hi c->M k c=if(t.getD k default).kids=[]then(t.getD k default).leaf else M (wg (t.getD k default) (c (t.getD k default).fact.toNat)).toNat c
variable {nf : Nat} {lo hi : Nat -> Int} {t : List Dn} {M : Nat -> (Nat -> Int) -> Bool}
theorem Oi {len:Nat}{rk:Nat->Nat}{n:Dn}(hp:Ap nf lo hi len rk n)(h:n.kids≠[])(v:Int):wg n v∈n.kids:=by
 have h1:=(hp.inner h).2.2.2.2.1;have h2:=aj n.Ja v;unfold wg;rw[Eb _ _ _ ia];exact Ga _
theorem ig (hT:Lg nf lo hi t){k:Nat}(hk:k<t.length):Fb nf (t.getD k default)<=nf:=by
 unfold Fb
 split
 {exact ja _}
 {next h=>exact Nat.le_of_lt ((hT k hk).inner h).2.2.1}
theorem WO (hT:Lg nf lo hi t)(hM:Zq nf lo hi t M):∀(N k:Nat),k<t.length->nf-Fb nf (t.getD k default)<=N->∀c c',ee nf lo hi c->ee nf lo hi c'->
  (∀j,Fb nf (t.getD k default)<=j->j<nf->c j=c' j)->M k c=M k c':=by
 intro N
 induction N with| zero=>{intro k hk hN c c' fc TR hj;rw[hM k hk c fc,hM k hk c' TR];by_cases h:(t.getD k default).kids=[];{rw[if_pos h,if_pos h]};{have h1:=((hT k hk).inner h).2.2.1;unfold Fb at hN;rw[Aa h]at hN;omega}}| succ N ih=>{intro k hk hN c c' fc TR hj;rw[hM k hk c fc,hM k hk c' TR];by_cases h:(t.getD k default).kids=[];{rw[if_pos h,if_pos h]};{rw[Aa h,Aa h];have hin:=(hT k hk).inner h;(have hr:Fb nf (t.getD k default)=(t.getD k default).fact.toNat:=by unfold Fb;rw[Aa h]);rw[hr]at hN hj;rw[hj _ (ja _) hin.2.2.1];have hm:=hin.2.2.2.2.2.2.2 _ (Oi (hT k hk) h (c' (t.getD k default).fact.toNat));have hlt:(t.getD k default).fact.toNat<Fb nf (t.getD (wg (t.getD k default) (c' (t.getD k default).fact.toNat)).toNat default):=hm.2.2;exact ih _ hm.2.1 ia c c' fc TR fun j h1 h2=>hj j ia h2}}
theorem Hj {c:Nat->Int}(fc:ee nf lo hi c){i:Nat}{v:Int}(h1:lo i<=v)(h2:v<=hi i):ee nf lo hi (Yl c i v):=by
 intro j hj;unfold Yl;by_cases h:j=i
 {subst h;rw[if_pos rfl];exact⟨h1,h2⟩}
 {rw[Aa h];exact fc j hj}
theorem Wj (hT:Lg nf lo hi t)(hM:Zq nf lo hi t M){k:Nat}(hk:k<t.length)(h:(t.getD k default).kids≠[]){v:Int}
  (h1:lo (t.getD k default).fact.toNat<=v) (h2:v<=hi (t.getD k default).fact.toNat) {c:Nat->Int} (fc:ee nf lo hi c):
  M (wg (t.getD k default) v).toNat c=M k (Yl c (t.getD k default).fact.toNat v):=by
 have fu:=Hj fc h1 h2;have hm:=((hT k hk).inner h).2.2.2.2.2.2.2 _ (Oi (hT k hk) h v);have hlt:(t.getD k default).fact.toNat<Fb nf (t.getD (wg (t.getD k default) v).toNat default):=hm.2.2;rw[hM k hk _ fu,Aa h];have hu:Yl c (t.getD k default).fact.toNat v (t.getD k default).fact.toNat=v:=by unfold Yl;rw[if_pos rfl]
 rw[hu];refine WO hT hM _ _ hm.2.1 (ja _) _ _ fc fu ?_;intro j h3 h4;unfold Yl;rw[Aa ia]
theorem Qy (hT:Lg nf lo hi t)(hM:Zq nf lo hi t M){k:Nat}(hk:k<t.length){i:Nat}(hi':i<Fb nf (t.getD k default)){v:Int}
  (h1:lo i<=v) (h2:v<=hi i) {c:Nat->Int} (fc:ee nf lo hi c):M k (Yl c i v)=M k c:=by
 refine WO hT hM _ _ hk (ja _) _ _ (Hj fc h1 h2) fc ?_;intro j h3 h4;unfold Yl;rw[Aa ia]
theorem ar {t:List Dn}(nd:t.Nodup){x y:Nat}(hx:x<t.length)(hy:y<t.length)(h:t.getD x default=t.getD y default):x=y:=by
 rw[Eb _ _ _ hx,Eb _ _ _ hy]at h;have hp:=List.pairwise_iff_getElem.1 nd;rcases Ue x y with hl | hl | hl
 {exact absurd h (hp x y hx hy hl)}
 {exact hl}
 {exact absurd h.symm (hp y x hy hx hl)}
theorem Ry (hT:Lg nf lo hi t)(hM:Zq nf lo hi t M)(hd:∀i,i<nf->lo i<=hi i){N x y:Nat}
  (ih:∀x' y',x'<t.length->y'<t.length->(nf-Fb nf (t.getD x' default))+(nf-Fb nf (t.getD y' default))<N->(∀c,ee nf lo hi c->M x' c=M y' c)->x'=y')
  (hx:x<t.length) (hy:y<t.length) (hN:(nf-Fb nf (t.getD x default))+(nf-Fb nf (t.getD y default))<=N) (h:∀c,ee nf lo hi c->M x c=M y c)
  (hr:Fb nf (t.getD x default)<Fb nf (t.getD y default)):False:=by
 have hy':=ig hT hy
 have Tk:(t.getD x default).kids≠[]:=by{intro he;(have:Fb nf (t.getD x default)=nf:=by unfold Fb;rw[if_pos he]);omega}
 have hrx:Fb nf (t.getD x default)=(t.getD x default).fact.toNat:=by unfold Fb;rw[Aa Tk]
 have hin:=(hT x hx).inner Tk;have hlh:=hd _ hin.2.2.1
 have key:∀v,lo (t.getD x default).fact.toNat<=v->v<=hi (t.getD x default).fact.toNat->wg (t.getD x default) v=(y:Int):=by
  intro v h1 h2;have hm:=hin.2.2.2.2.2.2.2 _ (Oi (hT x hx) Tk v);have hlt:(t.getD x default).fact.toNat<Fb nf (t.getD (wg (t.getD x default) v).toNat default):=hm.2.2;have:=ig hT hm.2.1
  have h3:=ih _ y hm.2.1 hy ia (by
   intro c fc
   rw[Wj hT hM hx Tk h1 h2 fc,h _ (Hj fc h1 h2)]
   exact Qy hT hM hy ia h1 h2 fc)
  have:=hm.1;omega
 have:=qn 0 (t.getD x default).Ja [] _ (t.getD x default).kids [(y:Int)] hlh hin.2.2.2.2.2.1 trivial hin.2.2.2.2.1 rfl hin.2.2.2.2.2.2.1 trivial (by
  intro v h1 h2
  exact key v h1 h2)
 exact hin.2.2.2.1 this.1
theorem NW (hT:Lg nf lo hi t)(hM:Zq nf lo hi t M)(nd:t.Nodup)(hd:∀i,i<nf->lo i<=hi i):∀(N x y:Nat),x<t.length->y<t.length->
  (nf-Fb nf (t.getD x default))+(nf-Fb nf (t.getD y default))<N->(∀c,ee nf lo hi c->M x c=M y c)->x=y:=by
 intro N
 induction N with
 | zero=>intro x y _ _ h;omega
 | succ N ih=>
  intro x y hx hy hN h;rcases Ue (Fb nf (t.getD x default)) (Fb nf (t.getD y default))with hr | hr | hr
  {exact(Ry hT hM hd (N:=N) (fun x' y' a b e g=>ih x' y' a b e g) hx hy ia h hr).elim}
  ·by_cases Tk:(t.getD x default).kids=[]
   {by_cases yq:(t.getD y default).kids=[];{(have hlo:ee nf lo hi lo:=fun i hi'=>⟨Jc _,hd i hi'⟩);have h1:=h lo hlo;rw[hM x hx _ hlo,hM y hy _ hlo,if_pos Tk,if_pos yq]at h1;have n9:=(hT x hx).leaf Tk;have o9:=(hT y hy).leaf yq;refine ar nd hx hy ?_;revert h1 Tk yq n9 o9;generalize t.getD x default=n;generalize t.getD y default=m;intro h1 h2 h3 h4 h5;(cases n;cases m);simp_all};{exfalso;have:=((hT y hy).inner yq).2.2.1;unfold Fb at hr;rw[if_pos Tk,Aa yq]at hr;omega}}
   ·by_cases yq:(t.getD y default).kids=[]
    {exfalso;have:=((hT x hx).inner Tk).2.2.1;unfold Fb at hr;rw[Aa Tk,if_pos yq]at hr;omega}
    ·have Dv:=(hT x hx).inner Tk
     have QJ:=(hT y hy).inner yq
     have hf:(t.getD x default).fact.toNat=(t.getD y default).fact.toNat:=by{unfold Fb at hr;rwa[Aa Tk,Aa yq]at hr}
     have zW:(t.getD x default).fact=(t.getD y default).fact:=by have:=Dv.2.1;have:=QJ.2.1;omega
     have hrx:Fb nf (t.getD x default)=(t.getD x default).fact.toNat:=by unfold Fb;rw[Aa Tk]
     have hlh:=hd _ Dv.2.2.1
     have key:∀v,lo (t.getD x default).fact.toNat<=v->v<=hi (t.getD x default).fact.toNat->wg (t.getD x default) v=wg (t.getD y default) v:=by
      intro v h1 h2;have hm:=Dv.2.2.2.2.2.2.2 _ (Oi (hT x hx) Tk v);have hn:=QJ.2.2.2.2.2.2.2 _ (Oi (hT y hy) yq v);have NN:(t.getD x default).fact.toNat<Fb nf (t.getD (wg (t.getD x default) v).toNat default):=hm.2.2;have tN:(t.getD y default).fact.toNat<Fb nf (t.getD (wg (t.getD y default) v).toNat default):=hn.2.2
      have h3:=ih _ _ hm.2.1 hn.2.1 ia (by
       intro c fc
       rw[Wj hT hM hx Tk h1 h2 fc,Wj hT hM hy yq (by rw[<-hf];exact h1) (by rw[<-hf];exact h2) fc,h _ (Hj fc h1 h2),hf])
      have:=hm.1;have:=hn.1;omega
     have hs:=qn 0 (t.getD x default).Ja (t.getD y default).Ja _ (t.getD x default).kids (t.getD y default).kids hlh Dv.2.2.2.2.2.1 (by rw[hf];exact QJ.2.2.2.2.2.1) Dv.2.2.2.2.1 QJ.2.2.2.2.1 Dv.2.2.2.2.2.2.1 QJ.2.2.2.2.2.2.1 (by
      intro v h1 h2
      exact key v h1 h2)
     refine ar nd hx hy ?_;have hl:=Dv.1.trans QJ.1.symm;revert hs hl zW;generalize t.getD x default=n;generalize t.getD y default=m;intro h1 h2 h3;cases n;cases m
     simp_all
  {exact(Ry hT hM hd (N:=N) (fun x' y' a b e g=>ih x' y' a b e g) hy hx ia (fun c fc=>(h c fc).symm) hr).elim}
end
section
variable {nf : Nat} {lo hi : Nat -> Int}
def Mi (nf:Nat)(lo hi:Nat->Int)(M:Nat->(Nat->Int)->Bool)(k:Nat):{c:Nat->Int // ee nf lo hi c}->Bool:=fun c=>M k c.1
theorem Ol {M M':Nat->(Nat->Int)->Bool}{x y:Nat}:Mi nf lo hi M x=Mi nf lo hi M' y↔∀c,ee nf lo hi c->M x c=M' y c:=
 ⟨fun h c fc=>congrFun h ⟨c,fc⟩,fun h=>funext fun c=>h c.1 c.2⟩
structure Te (nf : Nat) (lo hi : Nat -> Int) (t : List Dn) (M : Nat -> (Nat -> Int) -> Bool) : Prop where
 table:Lg nf lo hi t
 reads:Zq nf lo hi t M
 nodup:t.Nodup
 dom:∀i,i<nf->lo i<=hi i
theorem Te.one {t:List Dn}{M:Nat->(Nat->Int)->Bool}(g:Te nf lo hi t M){x y:Nat}(hx:x<t.length)(hy:y<t.length)(h:∀c,ee nf lo hi c->M x c=M y c):x=y:=
 NW g.table g.reads g.nodup g.dom _ x y hx hy (jf _) h
theorem su {t:List Dn}{M:Nat->(Nat->Int)->Bool}(g:Te nf lo hi t M):∀(l:List Int),(∀k∈l,0<=k/\ k.toNat<t.length)->Lw l->Lw (l.map fun k=>Mi nf lo hi M k.toNat)
 | [],_,_=>trivial
 | [_],_,_=>trivial
 | a::b::l,h,ha=>by{have h1:=h a (Na ..);have h2:=h b (La _ (Na ..));refine⟨?_,su g (b::l) (fun k hk=>h k (La _ hk)) ha.2⟩;intro he;have:=g.one h1.2 h2.2 (Ol.1 he);exact ha.1 ia}
theorem DF {α β:Type}(f:α->β)(l:List α)(i:Nat)(z:α):(l.map f).getD i (f z)=f (l.getD i z):=by
 rw[Ra,Ra,Kb];cases l[i]? <;>rfl
theorem Xn {α β:Type}(f:α->β)(l:List α)(i:Nat)(z:β)(a:α)(h:i<l.length):(l.map f).getD i z=f (l.getD i a):=by
 rw[Eb _ _ _ (by rw[Sa];exact h),Eb _ _ _ h,Gd]
theorem Sy {t t':List Dn}{M M':Nat->(Nat->Int)->Bool}(g:Te nf lo hi t M)(g':Te nf lo hi t' M'){x y:Nat}(hx:x<t.length)(hy:y<t'.length)(h:∀c,ee nf lo hi c->M x c=M' y c)
  (hr:Fb nf (t.getD x default)<Fb nf (t'.getD y default)):False:=by
 have hy':=ig g'.table hy
 have Tk:(t.getD x default).kids≠[]:=by{intro he;(have:Fb nf (t.getD x default)=nf:=by unfold Fb;rw[if_pos he]);omega}
 have hrx:Fb nf (t.getD x default)=(t.getD x default).fact.toNat:=by unfold Fb;rw[Aa Tk]
 have hin:=(g.table x hx).inner Tk;have hlh:=g.dom _ hin.2.2.1;have hk:=fun k hk=>hin.2.2.2.2.2.2.2 k hk
 have:=qn (Mi nf lo hi M (0:Int).toNat) (t.getD x default).Ja [] _ ((t.getD x default).kids.map fun k=>Mi nf lo hi M k.toNat) [Mi nf lo hi M' y] hlh hin.2.2.2.2.2.1 trivial (by rw[Sa];exact hin.2.2.2.2.1) rfl
  (su g _ (fun k h=>⟨(hk k h).1,(hk k h).2.1⟩) hin.2.2.2.2.2.2.1) trivial (by
  intro v h1 h2
  rw[DF (fun k:Int=>Mi nf lo hi M k.toNat)]
  show Mi nf lo hi M (wg (t.getD x default) v).toNat=Mi nf lo hi M' y
  refine Ol.2 fun c fc=>?_
  rw[Wj g.table g.reads hx Tk h1 h2 fc,h _ (Hj fc h1 h2)]
  exact Qy g'.table g'.reads hy ia h1 h2 fc)
 exact hin.2.2.2.1 this.1
theorem MU {t t':List Dn}{M M':Nat->(Nat->Int)->Bool}(g:Te nf lo hi t M)(g':Te nf lo hi t' M'){x y:Nat}(hx:x<t.length)(hy:y<t'.length)(h:∀c,ee nf lo hi c->M x c=M' y c):
  (t.getD x default).fact=(t'.getD y default).fact/\ (t.getD x default).Ja=(t'.getD y default).Ja/\ (t.getD x default).leaf=(t'.getD y default).leaf/\
  ((t.getD x default).kids.map fun k=>Mi nf lo hi M k.toNat)=((t'.getD y default).kids.map fun k=>Mi nf lo hi M' k.toNat):=by
 have hr:Fb nf (t.getD x default)=Fb nf (t'.getD y default):=by{(rcases Ue (Fb nf (t.getD x default)) (Fb nf (t'.getD y default))with hr | hr | hr);{exact(Sy g g' hx hy h hr).elim};{exact hr};{exact(Sy g' g hy hx (fun c fc=>(h c fc).symm) hr).elim}}
 by_cases Tk:(t.getD x default).kids=[]
 {by_cases yq:(t'.getD y default).kids=[];{(have hlo:ee nf lo hi lo:=fun i hi'=>⟨Jc _,g.dom i hi'⟩);have h1:=h lo hlo;rw[g.reads x hx _ hlo,g'.reads y hy _ hlo,if_pos Tk,if_pos yq]at h1;have n9:=(g.table x hx).leaf Tk;have o9:=(g'.table y hy).leaf yq;rw[Tk,yq,n9.1,n9.2,o9.1,o9.2];exact⟨rfl,rfl,h1,rfl⟩};{exfalso;have:=((g'.table y hy).inner yq).2.2.1;unfold Fb at hr;rw[if_pos Tk,Aa yq]at hr;omega}}
 ·by_cases yq:(t'.getD y default).kids=[]
  {exfalso;have:=((g.table x hx).inner Tk).2.2.1;unfold Fb at hr;rw[Aa Tk,if_pos yq]at hr;omega}
  ·have Dv:=(g.table x hx).inner Tk
   have QJ:=(g'.table y hy).inner yq
   have hf:(t.getD x default).fact.toNat=(t'.getD y default).fact.toNat:=by{unfold Fb at hr;rwa[Aa Tk,Aa yq]at hr}
   have zW:(t.getD x default).fact=(t'.getD y default).fact:=by have:=Dv.2.1;have:=QJ.2.1;omega
   have hlh:=g.dom _ Dv.2.2.1;have kx:=fun k hk=>Dv.2.2.2.2.2.2.2 k hk
   have ky:=fun k hk=>QJ.2.2.2.2.2.2.2 k hk
   let z:{c:Nat->Int // ee nf lo hi c}->Bool:=fun _=>false
   have hs:=qn z (t.getD x default).Ja (t'.getD y default).Ja _ ((t.getD x default).kids.map fun k=>Mi nf lo hi M k.toNat) ((t'.getD y default).kids.map fun k=>Mi nf lo hi M' k.toNat) hlh Dv.2.2.2.2.2.1 (by rw[hf];exact QJ.2.2.2.2.2.1)
    (by rw[Sa];exact Dv.2.2.2.2.1) (by rw[Sa];exact QJ.2.2.2.2.1) (su g _ (fun k h=>⟨(kx k h).1,(kx k h).2.1⟩) Dv.2.2.2.2.2.2.1) (su g' _ (fun k h=>⟨(ky k h).1,(ky k h).2.1⟩) QJ.2.2.2.2.2.2.1) (by
    intro v h1 h2
    have l1:=aj (t.getD x default).Ja v
    have l2:=aj (t'.getD y default).Ja v
    have n1:=Dv.2.2.2.2.1
    have n2:=QJ.2.2.2.2.1
    rw[Xn _ _ _ _ 0 ia,Xn _ _ _ _ 0 ia]
    show Mi nf lo hi M (wg (t.getD x default) v).toNat=Mi nf lo hi M' (wg (t'.getD y default) v).toNat
    refine Ol.2 fun c fc=>?_
    rw[Wj g.table g.reads hx Tk h1 h2 fc,Wj g'.table g'.reads hy yq (by rw[<-hf];exact h1) (by rw[<-hf];exact h2) fc,h _ (Hj fc h1 h2),hf])
   exact⟨zW,hs.1,Dv.1.trans QJ.1.symm,hs.2⟩
def Yb (t:List Dn):Nat->List Nat->Nat->List Nat
 | 0,o,_=>o
 | f+1,o,i=>if i∈o then o else((t.getD i default).kids).foldl (fun o k=>Yb t f o k.toNat) (o++[i])
def ue (t:List Dn)(o:List Nat):List Dn:=o.map fun k=>⟨(t.getD k default).fact,(t.getD k default).Ja,(t.getD k default).kids.map fun x=>((o.idxOf x.toNat:Nat):Int),(t.getD k default).leaf⟩
def nt (nf:Nat)(lo hi:Nat->Int)(t t':List Dn)(M M':Nat->(Nat->Int)->Bool)(o o':List Nat):Prop:=
 (∀x∈o,x<t.length)/\ (∀y∈o',y<t'.length)/\ o.map (Mi nf lo hi M)=o'.map (Mi nf lo hi M')
theorem Ev {t t':List Dn}{M M':Nat->(Nat->Int)->Bool}(g:Te nf lo hi t M)(g':Te nf lo hi t' M'){x y:Nat}(hx:x<t.length)(hy:y<t'.length)(h:Mi nf lo hi M x=Mi nf lo hi M' y):
  ∀ {o o':List Nat},nt nf lo hi t t' M M' o o'->o.idxOf x=o'.idxOf y/\ (x∈o↔y∈o')
 | [],[],_=>⟨rfl,la⟩
 | [],_::_,hs=>by simp[nt]at hs
 | _::_,[],hs=>by simp[nt]at hs
 | a::o,b::o',hs=>by{obtain⟨h1,h2,h3⟩:=hs;rw[Va,Va,List.cons.injEq]at h3;have ih:=Ev g g' hx hy h (o:=o) (o':=o') ⟨fun x hx=>h1 x (La _ hx),fun y hy=>h2 y (La _ hy),h3.2⟩;have ha:=h1 a (Na ..);have hb:=h2 b (Na ..);have he:a=x↔b=y:=by{constructor;{rintro rfl;exact g'.one hb hy (Ol.1 (h3.1.symm.trans h))};{rintro rfl;exact g.one ha hx (Ol.1 (h3.1.trans h.symm))}};refine⟨?_,?_⟩;{rw[mi,mi];by_cases r9:a=x;{have OW:=he.1 r9;simp[r9,OW]};{(have OW:¬b=y:=fun h=>r9 (he.2 h));(have e1:(a==x)=false:=by simpa using r9);(have e2:(b==y)=false:=by simpa using OW);rw[e1,e2,ih.1]}};{rw[He,He,ih.2];constructor;{rintro(h | h);{exact Or.inl (he.1 h.symm).symm};{exact Or.inr h}};{rintro(h | h);{exact Or.inl (he.2 h.symm).symm};{exact Or.inr h}}}}
theorem EF {t t':List Dn}{M M':Nat->(Nat->Int)->Bool}(g:Te nf lo hi t M)(g':Te nf lo hi t' M'):∀(f:Nat) (o o':List Nat) (x y:Nat),x<t.length->y<t'.length->Mi nf lo hi M x=Mi nf lo hi M' y->
  nt nf lo hi t t' M M' o o'->nt nf lo hi t t' M M' (Yb t f o x) (Yb t' f o' y):=by
 intro f
 induction f with| zero=>intro o o' x y _ _ _ hs;exact hs| succ f ih=>{intro o o' x y hx hy h hs;have hiS:=Ev g g' hx hy h hs;unfold Yb;by_cases hm:x∈o;{rw[if_pos hm,if_pos (hiS.2.1 hm)];exact hs};{rw[Aa hm,Aa (fun h=>hm (hiS.2.2 h))];have hc:=(MU g g' hx hy (Ol.1 h)).2.2.2;have EM:nt nf lo hi t t' M M' (o++[x]) (o'++[y]):=by{refine⟨?_,?_,?_⟩;{intro z hz;(rcases List.mem_append.1 hz with hz | hz);{exact hs.1 z hz};{rw[List.mem_singleton.1 hz];exact hx}};{intro z hz;(rcases List.mem_append.1 hz with hz | hz);{exact hs.2.1 z hz};{rw[List.mem_singleton.1 hz];exact hy}};{rw[Lb,Lb,hs.2.2];simp[h]}};(have Tk:∀k∈(t.getD x default).kids,k.toNat<t.length:=fun k hk=>(((g.table x hx).inner (Vc hk)).2.2.2.2.2.2.2 k hk).2.1);(have yq:∀k∈(t'.getD y default).kids,k.toNat<t'.length:=fun k hk=>(((g'.table y hy).inner (Vc hk)).2.2.2.2.2.2.2 k hk).2.1);revert hc EM Tk yq;generalize(t.getD x default).kids=l;generalize(t'.getD y default).kids=l';generalize o++[x]=p;generalize o'++[y]=p';intro hc EM Tk yq;induction l generalizing l' p p' with| nil=>{cases l' with| nil=>exact EM| cons b l'=>simp at hc}| cons a l ihl=>{cases l' with| nil=>simp at hc| cons b l'=>{rw[Va,Va,List.cons.injEq]at hc;rw[Ud,Ud];exact ihl l' _ _ hc.2 (ih _ _ _ _ (Tk a (Na ..)) (yq b (Na ..)) hc.1 EM) (fun k hk=>Tk k (La _ hk)) (fun k hk=>yq k (La _ hk))}}}}
theorem qI {t t':List Dn}{M M':Nat->(Nat->Int)->Bool}(g:Te nf lo hi t M)(g':Te nf lo hi t' M'){o o':List Nat}(hs:nt nf lo hi t t' M M' o o'):ue t o=ue t' o':=by
 have hlen:o.length=o'.length:=by{have:=congrArg List.length hs.2.2;rwa[Sa,Sa]at this}
 unfold ue;refine se (by rw[Sa,Sa,hlen]) ?_;intro i h1 h2;rw[Gd,Gd];rw[Sa]at h1 h2;have hx:=hs.1 _ (Ga h1);have hy:=hs.2.1 _ (Ga h2)
 have hm:Mi nf lo hi M o[i]=Mi nf lo hi M' o'[i]:=by{have h3:(o.map (Mi nf lo hi M))[i]'(by rw[Sa];exact h1)=(o'.map (Mi nf lo hi M'))[i]'(by rw[Sa];exact h2):=by{congr 1;exact hs.2.2};rwa[Gd,Gd]at h3}
 have hc:=MU g g' hx hy (Ol.1 hm);have Tk:∀k∈(t.getD o[i] default).kids,k.toNat<t.length:=fun k hk=>(((g.table _ hx).inner (Vc hk)).2.2.2.2.2.2.2 k hk).2.1
 have yq:∀k∈(t'.getD o'[i] default).kids,k.toNat<t'.length:=fun k hk=>(((g'.table _ hy).inner (Vc hk)).2.2.2.2.2.2.2 k hk).2.1
 have dq:((t.getD o[i] default).kids.map fun x=>((o.idxOf x.toNat:Nat):Int))=((t'.getD o'[i] default).kids.map fun x=>((o'.idxOf x.toNat:Nat):Int)):=by
  have hq:=hc.2.2.2;revert hq Tk yq;generalize(t.getD o[i] default).kids=l;generalize(t'.getD o'[i] default).kids=l';intro Tk yq hq
  induction l generalizing l' with
  | nil=>{cases l' with| nil=>rfl| cons b l'=>simp at hq}
  | cons a l ihl=>
   cases l' with
   | nil=>simp at hq
   | cons b l'=>
    rw[Va,Va,List.cons.injEq]at hq
    rw[Va,Va,(Ev g g' (Tk a (Na ..)) (yq b (Na ..)) hq.1 hs).1,
     ihl l' (fun k hk=>Tk k (La _ hk)) (fun k hk=>yq k (La _ hk)) hq.2]
 rw[dq,hc.1,hc.2.1,hc.2.2.1]
theorem Hp {t t':List Dn}{M M':Nat->(Nat->Int)->Bool}(g:Te nf lo hi t M)(g':Te nf lo hi t' M'){x y:Nat}(hx:x<t.length)(hy:y<t'.length)(h:∀c,ee nf lo hi c->M x c=M' y c)(f:Nat):
  ue t (Yb t f [] x)=ue t' (Yb t' f [] y):=
 qI g g' (EF g g' f [] [] x y hx hy (Ol.2 h) ⟨fun _ h=>by simp at h,fun _ h=>by simp at h,rfl⟩)
end
section
variable {nf : Nat} {lo hi : Nat -> Int}
def FF (c:Nat->Int)(acc:List Bool)(n:Dn):List Bool:=acc++[if n.kids=[]then n.leaf else acc.getD (wg n (c n.fact.toNat)).toNat false]
def PW (t:List Dn)(c:Nat->Int):List Bool:=t.foldl (FF c) []
def xg (t:List Dn)(k:Nat)(c:Nat->Int):Bool:=(PW t c).getD k false
theorem Ty (t:List Dn)(n:Dn)(c:Nat->Int):PW (t++[n]) c=FF c (PW t c) n:=by
 unfold PW;rw[Od]
 rfl
theorem GF {P:List Dn->Prop}(h0:P [])(h1:∀t n,P t->P (t++[n]))(t:List Dn):P t:=by
 have:∀(u t:List Dn),P t->P (t++u):=by{intro u;induction u with| nil=>intro t h;rwa[Yc]| cons a u ih=>{intro t h;have:=ih (t++[a]) (h1 t a h);rwa[Ua]at this}}
 exact this t [] h0
theorem SJ (t:List Dn)(c:Nat->Int):(PW t c).length=t.length:=by
 induction t using GF with| h0=>rfl| h1 t n ih=>rw[Ty,FF,Ea,Ea,ih];rfl
theorem Cf {α:Type}(l:List α)(a z:α){k:Nat}(h:k<l.length):(l++[a]).getD k z=l.getD k z:=by
 rw[Eb _ _ _ (by rw[Ea];omega),Eb _ _ _ h,Qd h]
theorem pd {α:Type}(l:List α)(a z:α):(l++[a]).getD l.length z=a:=by
 rw[Eb _ _ _ (by rw[Ea];simp)]
 simp
theorem ot (t:List Dn)(n:Dn)(c:Nat->Int){k:Nat}(h:k<t.length):xg (t++[n]) k c=xg t k c:=by
 unfold xg;rw[Ty,FF,Cf _ _ _ (by rw[SJ];exact h)]
theorem Ik (t:List Dn)(c:Nat->Int){k:Nat}(h:k<t.length)(u:List Dn):xg (t++u) k c=xg t k c:=by
 induction u using GF with| h0=>rw[Yc]| h1 u n ih=>rw[<-Ua,ot _ _ _ (by rw[Ea];omega),ih]
theorem rI (t:List Dn)(n:Dn)(c:Nat->Int):xg (t++[n]) t.length c=if n.kids=[]then n.leaf else xg t (wg n (c n.fact.toNat)).toNat c:=by
 unfold xg;rw[Ty,FF];have:=pd (PW t c) (if n.kids=[]then n.leaf else(PW t c).getD (wg n (c n.fact.toNat)).toNat false) false
 rwa[SJ]at this
structure Made (nf : Nat) (lo hi : Nat -> Int) (t : List Dn) : Prop where
 table:Lg nf lo hi t
 early:∀k,k<t.length->∀x∈(t.getD k default).kids,x.toNat<k
 nodup:t.Nodup
theorem Made.nil :Made nf lo hi []:=⟨fun k h=>absurd h (Ib k),fun k h=>absurd h (Ib k),ie⟩
def Fs (nf:Nat)(lo hi:Nat->Int)(t:List Dn)(n:Dn):Prop:=Ap nf lo hi t.length (fun j=>Fb nf (t.getD j default)) n
theorem NB {t:List Dn}{n m:Dn}(h:Fs nf lo hi t n):Fs nf lo hi (t++[m]) n:=by
 refine⟨h.leaf,fun hk=>?_⟩;have hi:=h.inner hk;refine⟨hi.1,hi.2.1,hi.2.2.1,hi.2.2.2.1,hi.2.2.2.2.1,hi.2.2.2.2.2.1,hi.2.2.2.2.2.2.1,?_⟩;intro k hm;have h1:=hi.2.2.2.2.2.2.2 k hm;refine⟨h1.1,by rw[Ea];omega,?_⟩
 show _<Fb nf ((t++[m]).getD k.toNat default)
 rw[Cf _ _ _ h1.2.1];exact h1.2.2
theorem Made.snoc {t:List Dn}(h:Made nf lo hi t){n:Dn}(ho:Fs nf lo hi t n)(hn:n∉t):Made nf lo hi (t++[n]):=by
 refine⟨?_,?_,?_⟩
 {intro k hk;rw[Ea]at hk;(rcases Kc k t.length with h1 | h1);{rw[Cf _ _ _ h1];exact NB (h.table k h1)};{(have:k=t.length:=by simp at hk;omega);subst this;rw[pd];exact NB ho}}
 {intro k hk x hx;rw[Ea]at hk;(rcases Kc k t.length with h1 | h1);{rw[Cf _ _ _ h1]at hx;exact h.early k h1 x hx};{(have:k=t.length:=by simp at hk;omega);subst this;rw[pd]at hx;exact((ho.inner (Vc hx)).2.2.2.2.2.2.2 x hx).2.1}}
 {rw[Bf];refine⟨h.nodup,la,?_⟩;intro a ha b hb he;rw[Nb]at hb;subst hb;subst he;exact hn ha}
theorem Made.reads {t:List Dn}(h:Made nf lo hi t):Zq nf lo hi t (xg t):=by
 intro k hk c _
 have he:t=t.take k++[t.getD k default]++t.drop (k+1):=by{rw[Eb _ _ _ hk,Ua,List.singleton_append,List.getElem_cons_drop,sf]}
 have hl:(t.take k).length=k:=by rw[Bc];omega
 have h1:xg t k c=xg (t.take k++[t.getD k default]) k c:=by{have:=Ik (t.take k++[t.getD k default]) c (k:=k) (by rw[Ea,hl];simp) (t.drop (k+1));rwa[<-he]at this}
 have h2:=rI (t.take k) (t.getD k default) c;rw[hl]at h2;rw[h1,h2];by_cases hn:(t.getD k default).kids=[]
 {rw[if_pos hn,if_pos hn]}
 {rw[Aa hn,Aa hn];have hm:=h.early k hk _ (Oi (h.table k hk) hn (c (t.getD k default).fact.toNat));have h3:=Ik (t.take k) c (k:=(wg (t.getD k default) (c (t.getD k default).fact.toNat)).toNat) (by rw[hl];exact hm) ([t.getD k default]++t.drop (k+1));rw[<-Ua, <-he]at h3;exact h3.symm}
theorem Made.dh {t:List Dn}(h:Made nf lo hi t)(hd:∀i,i<nf->lo i<=hi i):Te nf lo hi t (xg t):=⟨h.table,h.reads,h.nodup,hd⟩
def Md (t:List Dn)(n:Dn):List Dn×Nat:=if n∈t then(t,t.idxOf n)else(t++[n],t.length)
theorem Ao {t:List Dn}(h:Made nf lo hi t){n:Dn}(ho:Fs nf lo hi t n):Made nf lo hi (Md t n).1/\ (Md t n).2<(Md t n).1.length/\ (Md t n).1.getD (Md t n).2 default=n/\ ∃u,(Md t n).1=t++u:=by
 unfold Md;by_cases hn:n∈t
 {rw[if_pos hn];have h1:=Ub hn;refine⟨h,h1,?_,[],la⟩;show t.getD (t.idxOf n) default=n;rw[Eb _ _ _ h1];exact Dd h1}
 {rw[Aa hn];exact⟨h.snoc ho hn,by show t.length<(t++[n]).length;simp,pd _ _ _,[n],rfl⟩}
def Hh :Int->List (Int×Int)->List Int×List Int
 | _,[]=>([],[])
 | a,(s,k)::l=>if k=a then Hh a l else(s::(Hh k l).1,k::(Hh k l).2)
theorem Bo :∀(l:List (Int×Int)) (a:Int),(Hh a l).2.length=(Hh a l).1.length
 | [],_=>rfl
 | (s,k)::l,a=>by{unfold Hh;(split);{exact Bo l a};{simp[Bo l k]}}
theorem Iq :∀(l:List (Int×Int)) (a:Int),Lw (a::(Hh a l).2)
 | [],_=>trivial
 | (s,k)::l,a=>by{unfold Hh;(split);{exact Iq l a};{next h=>exact⟨fun he=>h he.symm,Iq l k⟩}}
theorem Jq :∀(l:List (Int×Int)) (a x:Int),x∈(Hh a l).2->x∈l.map Prod.snd
 | [],_,_,h=>by simp[Hh]at h
 | (s,k)::l,a,x,h=>by{unfold Hh at h;(split at h);{exact La _ (Jq l a x h)};{(rcases List.mem_cons.1 h with h | h);{rw[h];exact Na ..};{exact La _ (Jq l k x h)}}}
theorem tI {hi':Int}:∀ {l:List Int} {a b:Int},a<=b->Xe hi' b l->Xe hi' a l
 | [],_,_,_,_=>trivial
 | _::_,_,_,h,hc=>⟨by have:=hc.1;omega,hc.2⟩
theorem Zk {hi':Int}:∀(l:List (Int×Int)) (a b:Int),Xe hi' b (l.map Prod.fst)->Xe hi' b (Hh a l).1
 | [],_,_,_=>trivial
 | (s,k)::l,a,b,h=>by{unfold Hh;have h1:b<s:=h.1;(split);{exact Zk l a b (tI (Int.le_of_lt h1) h.2.2)};{exact⟨h.1,h.2.1,Zk l k s h.2.2⟩}}
theorem yL {hi':Int}:∀ {l:List Int} {b v:Int},Xe hi' b l->v<=b->Yd l v=0
 | [],_,_,_,_=>rfl
 | _::_,_,_,h,hv=>Gj (by have:=h.1;omega)
theorem Fv {hi':Int}:∀(l:List (Int×Int)) (a b v:Int),Xe hi' b (l.map Prod.fst)->
  (a::(Hh a l).2).getD (Yd (Hh a l).1 v) 0=(a::l.map Prod.snd).getD (Yd (l.map Prod.fst) v) 0
 | [],_,_,_,_=>rfl
 | (s,k)::l,a,b,v,h=>by
  have hs:Xe hi' s (l.map Prod.fst):=h.2.2;have h1:b<s:=h.1;unfold Hh;by_cases hv:v<s
  ·rw[Va,Va]
   rw[Gj hv]
   split
   ·next hk=>
    rw[yL (Zk l a s hs) ia]
    rfl
   {rw[Gj hv];rfl}
  ·have hv:s<=v:=by omega
   rw[Va,Va,Th hv,List.getD_cons_succ]
   split
   ·next hk=>
    subst hk;exact Fv l k s v hs
   {rw[Th hv,List.getD_cons_succ];exact Fv l k s v hs}
def Mc (t:List Dn)(i:Int)(Ce kids:List Int):List Dn×Nat:=
 let r:=Hh (kids.getD 0 0) (Ce.tail.zip kids.tail)
 if r.2=[]then(t,(kids.getD 0 0).toNat)else Md t ⟨i,r.1,kids.getD 0 0::r.2,false⟩
theorem Fl {t:List Dn}(h:Made nf lo hi t){i:Nat}(hi':i<nf)(s0 k0:Int)(ss ks:List Int)(hl:ks.length=ss.length)(hc:Xe (hi i) (lo i) ss)
  (hk:∀k∈k0::ks,0<=k/\ k.toNat<t.length/\ i<Fb nf (t.getD k.toNat default)):
  Made nf lo hi (Mc t i (s0::ss) (k0::ks)).1/\ (Mc t i (s0::ss) (k0::ks)).2<(Mc t i (s0::ss) (k0::ks)).1.length/\ (∃u,(Mc t i (s0::ss) (k0::ks)).1=t++u)/\
  i<=Fb nf ((Mc t i (s0::ss) (k0::ks)).1.getD (Mc t i (s0::ss) (k0::ks)).2 default)/\
  ∀c,ee nf lo hi c->xg (Mc t i (s0::ss) (k0::ks)).1 (Mc t i (s0::ss) (k0::ks)).2 c=xg t ((k0::ks).getD (Yd ss (c i)) 0).toNat c:=by
 have hz1:(ss.zip ks).map Prod.fst=ss:=List.map_fst_zip ia;have hz2:(ss.zip ks).map Prod.snd=ks:=List.map_snd_zip ia;have hch:Xe (hi i) (lo i) ((ss.zip ks).map Prod.fst):=by rw[hz1];exact hc
 have Gs:=fun v=>Fv (ss.zip ks) k0 (lo i) v hch
 rw[hz1,hz2]at Gs;have Z2:=Zk (ss.zip ks) k0 (lo i) hch;have hda:=Iq (ss.zip ks) k0;have hdl:=Bo (ss.zip ks) k0;have u9:=Jq (ss.zip ks) k0;rw[hz2]at u9;unfold Mc;simp only[List.tail_cons,Nf];revert Gs Z2 hda hdl u9;generalize Hh k0 (ss.zip ks)=r;intro Gs Z2 hda hdl u9;by_cases hr:r.2=[]
 {rw[if_pos hr];have h0:=hk k0 (Na ..);refine⟨h,h0.2.1,⟨[],la⟩,Nat.le_of_lt h0.2.2,?_⟩;intro c _;(have h1:r.1=[]:=by rw[hr]at hdl;simpa using hdl.symm);have h2:=Gs (c i);rw[h1,hr]at h2;rw[<-h2];rfl}
 ·rw[Aa hr]
  have hne:r.1≠[]:=by{intro he;rw[he]at hdl;exact hr (by simpa using hdl)}
  have ho:Fs nf lo hi t ⟨i,r.1,k0::r.2,false⟩:=by{refine⟨fun he=>by simp at he,fun _=>⟨rfl,Ab i,by simpa using hi',hne,by simp[hdl],by simpa using Z2,hda,?_⟩⟩;intro k hm;(rcases List.mem_cons.1 hm with hm | hm);{rw[hm];simpa using hk k0 (Na ..)};{simpa using hk k (La _ (u9 k hm))}}
  obtain⟨h1,h2,h3,u,h4⟩:=Ao h ho;refine⟨h1,h2,⟨u,h4⟩,?_,?_⟩
  {rw[h3];show i<=Fb nf ⟨i,r.1,k0::r.2,false⟩;unfold Fb;simp}
  ·intro c fc
   rw[h1.reads _ h2 c fc,h3];simp only[List.cons_ne_nil,if_false]
   have he:wg ⟨i,r.1,k0::r.2,false⟩ (c (i:Int).toNat)=(k0::ks).getD (Yd ss (c i)) 0:=by
    show(k0::r.2).getD (Yd r.1 (c i)) 0=_
    exact Gs (c i)
   rw[he]
   have Gl:(k0::ks).getD (Yd ss (c i)) 0∈k0::ks:=by{have:=aj ss (c i);rw[Eb _ _ _ (by rw[ib];omega)];exact Ga _}
   rw[h4];exact Ik t c (hk _ Gl).2.1 u
end
section
variable {nf : Nat} {lo hi : Nat -> Int} {t : List Dn} {M : Nat -> (Nat -> Int) -> Bool}
structure Mj (t : List Dn) (o o' : List Nat) : Prop where
 more:∃u,o'=o++u
 nodup:o'.Nodup
 inside:∀x∈o',x<t.length
 closed:∀y∈o',y∉o->∀k∈(t.getD y default).kids,k.toNat∈o'
theorem Mj.mem {o o':List Nat}(h:Mj t o o'){x:Nat}(hx:x∈o):x∈o':=by
 obtain⟨u,hu⟩:=h.more;rw[hu];exact Cd _ hx
theorem Mj.refl {o:List Nat}(h1:o.Nodup)(h2:∀x∈o,x<t.length):Mj t o o:=⟨⟨[],la⟩,h1,h2,fun _ h h'=>absurd h h'⟩
theorem Mj.trans {o p q:List Nat}(h:Mj t o p)(h':Mj t p q):Mj t o q:=by
 obtain⟨u,hu⟩:=h.more;obtain⟨v,hv⟩:=h'.more;refine⟨⟨u++v,by rw[hv,hu,Ua]⟩,h'.nodup,h'.inside,?_⟩;intro y hy hn k hk;by_cases hp:y∈p
 {exact h'.mem (h.closed y hp hn k hk)}
 {exact h'.closed y hy hp k hk}
theorem Ro (hT:Lg nf lo hi t):∀(f:Nat) (o:List Nat) (x:Nat),x<t.length->nf-Fb nf (t.getD x default)<f->o.Nodup->(∀y∈o,y<t.length)->
  Mj t o (Yb t f o x)/\ x∈Yb t f o x:=by
 intro f
 induction f with
 | zero=>intro o x _ h;omega
 | succ f ih=>
  intro o x hx hf nd hin;unfold Yb;by_cases hm:x∈o
  {rw[if_pos hm];exact⟨Mj.refl nd hin,hm⟩}
  ·rw[Aa hm]
   have nd':(o++[x]).Nodup:=by{rw[Bf];refine⟨nd,la,?_⟩;intro a ha b hb he;rw[Nb]at hb;subst hb;subst he;exact hm ha}
   have aaA:∀y∈o++[x],y<t.length:=by{intro y hy;(rcases List.mem_append.1 hy with hy | hy);{exact hin y hy};{rw[List.mem_singleton.1 hy];exact hx}}
   have dq:∀k∈(t.getD x default).kids,k.toNat<t.length/\ nf-Fb nf (t.getD k.toNat default)<f:=by{intro k hk;have hne:=Vc hk;have hi':=(hT x hx).inner hne;have h1:=hi'.2.2.2.2.2.2.2 k hk;have h2:(t.getD x default).fact.toNat<Fb nf (t.getD k.toNat default):=h1.2.2;(have h3:Fb nf (t.getD x default)=(t.getD x default).fact.toNat:=by unfold Fb;rw[Aa hne]);have h4:=ig hT h1.2.1;exact⟨h1.2.1,ia⟩}
   have key:∀(l:List Int),(∀k∈l,k.toNat<t.length/\ nf-Fb nf (t.getD k.toNat default)<f)->∀p:List Nat,p.Nodup->(∀y∈p,y<t.length)->
     Mj t p (l.foldl (fun o k=>Yb t f o k.toNat) p)/\ ∀k∈l,k.toNat∈l.foldl (fun o k=>Yb t f o k.toNat) p:=by
    intro l
    induction l with| nil=>intro _ p h1 h2;exact⟨Mj.refl h1 h2,fun _ h=>by simp at h⟩| cons a l ihl=>{intro hl p h1 h2;have ha:=hl a (Na ..);have hv:=ih p a.toNat ha.1 ha.2 h1 h2;have hr:=ihl (fun k hk=>hl k (La _ hk)) _ hv.1.nodup hv.1.inside;rw[Ud];refine⟨hv.1.trans hr.1,?_⟩;intro k hk;(rcases List.mem_cons.1 hk with hk | hk);{rw[hk];exact hr.1.mem hv.2};{exact hr.2 k hk}}
   have hk:=key _ dq (o++[x]) nd' aaA;obtain⟨u,hu⟩:=hk.1.more;refine⟨⟨⟨[x]++u,by rw[hu,Ua]⟩,hk.1.nodup,hk.1.inside,?_⟩,hk.1.mem la⟩;intro y hy hn k hk';by_cases hyx:y=x
   {subst hyx;exact hk.2 k hk'}
   {exact hk.1.closed y hy (by simp[hn,hyx]) k hk'}
structure XO (t : List Dn) (o : List Nat) : Prop where
 nodup:o.Nodup
 inside:∀x∈o,x<t.length
 closed:∀y∈o,∀k∈(t.getD y default).kids,k.toNat∈o
theorem Hl (hT:Lg nf lo hi t){f x:Nat}(hx:x<t.length)(hf:nf<f):XO t (Yb t f [] x)/\ ∃u,Yb t f [] x=x::u:=by
 have h:=Ro hT f [] x hx ia ie (fun _ h=>by simp at h);refine⟨⟨h.1.nodup,h.1.inside,fun y hy=>h.1.closed y hy la⟩,?_⟩;obtain⟨g,rfl⟩:∃g,f=g+1:=⟨f-1,ia⟩;unfold Yb;rw[Aa la]
 show ∃u,(t.getD x default).kids.foldl (fun o k=>Yb t g o k.toNat) [x]=x::u
 have pre:∀(f:Nat) (o:List Nat) (x:Nat),∃u,Yb t f o x=o++u:=by
  intro f
  induction f with
  | zero=>intro o x;exact⟨[],by simp[Yb]⟩
  | succ f ih=>
   intro o x;unfold Yb
   split
   {exact⟨[],la⟩}
   ·have key:∀(l:List Int) (p:List Nat),∃u,l.foldl (fun o k=>Yb t f o k.toNat) p=p++u:=by
     intro l
     induction l with| nil=>intro p;exact⟨[],la⟩| cons a l ihl=>{intro p;obtain⟨u,hu⟩:=ih p a.toNat;obtain⟨v,hv⟩:=ihl (Yb t f p a.toNat);exact⟨u++v,by rw[Ud,hv,hu,Ua]⟩}
    obtain⟨u,hu⟩:=key (t.getD x default).kids (o++[x]);exact⟨[x]++u,by rw[hu,Ua]⟩
 have key:∀(l:List Int) (p:List Nat),∃u,l.foldl (fun o k=>Yb t g o k.toNat) p=p++u:=by{intro l;induction l with| nil=>intro p;exact⟨[],la⟩| cons a l ihl=>{intro p;obtain⟨u,hu⟩:=pre g p a.toNat;obtain⟨v,hv⟩:=ihl (Yb t g p a.toNat);exact⟨u++v,by rw[Ud,hv,hu,Ua]⟩}}
 obtain⟨u,hu⟩:=key (t.getD x default).kids [x];exact⟨u,hu⟩
theorem pj (t:List Dn)(o:List Nat):(ue t o).length=o.length:=by unfold ue;rw[Sa]
theorem Pr {o:List Nat}{k:Nat}(hk:k<o.length):
  (ue t o).getD k default=⟨(t.getD o[k] default).fact,(t.getD o[k] default).Ja,(t.getD o[k] default).kids.map fun x=>((o.idxOf x.toNat:Nat):Int),(t.getD o[k] default).leaf⟩:=by
 rw[Eb _ _ _ (by rw[pj];exact hk)];unfold ue;rw[Gd]
theorem zL {o:List Nat}{x:Nat}(hx:x∈o):Fb nf ((ue t o).getD (o.idxOf x) default)=Fb nf (t.getD x default):=by
 have h:=Ub hx;rw[Pr h,Dd h];unfold Fb
 simp
theorem YS {o:List Nat}{x y:Nat}(hx:x∈o)(hy:y∈o)(h:o.idxOf x=o.idxOf y):x=y:=by
 have h1:=Ub hx;have h2:=Ub hy;have e1:=Dd h1;have e2:=Dd h2;rw[<-e1, <-e2];congr 1
theorem TJ {f:Int->Int}:∀(l:List Int),(∀a∈l,∀b∈l,f a=f b->a=b)->Lw l->Lw (l.map f)
 | [],_,_=>trivial
 | [_],_,_=>trivial
 | a::b::l,h,ha=>⟨fun he=>ha.1 (h a (Na ..) b (La _ (Na ..)) he),
   TJ (b::l) (fun x hx y hy=>h x (La _ hx) y (La _ hy)) ha.2⟩
theorem Uy {f:Int->Int}:∀ {l k:List Int},(∀a∈l,∀b∈k,f a=f b->a=b)->l.map f=k.map f->l=k
 | [],[],_,_=>rfl
 | [],_::_,_,h=>by simp at h
 | _::_,[],_,h=>by simp at h
 | a::l,b::k,hf,h=>by{rw[Va,Va,List.cons.injEq]at h;rw[hf a (Na ..) b (Na ..) h.1,Uy (fun x hx y hy=>hf x (La _ hx) y (La _ hy)) h.2]}
theorem Tp {α β:Type}(f:α->β):∀(l:List α),l.Nodup->(∀x∈l,∀y∈l,f x=f y->x=y)->(l.map f).Nodup
 | [],_,_=>ie
 | a::l,nd,inj=>by{rw[ni]at nd;rw[Va,ni];refine⟨?_,Tp f l nd.2 fun x hx y hy=>inj x (La _ hx) y (La _ hy)⟩;intro hm;obtain⟨y,hy,he⟩:=List.mem_map.1 hm;exact nd.1 (inj a (Na ..) y (La _ hy) he.symm▸hy)}
theorem Ir (g:Te nf lo hi t M){o:List Nat}(ho:XO t o):Te nf lo hi (ue t o) (fun k=>M (o.getD k 0)):=by
 have j3:∀x y,x<o.length->y<o.length->∀(hx:x<o.length) (hy:y<o.length),∀a∈(t.getD o[x] default).kids,∀b∈(t.getD o[y] default).kids,((o.idxOf a.toNat:Nat):Int)=((o.idxOf b.toNat:Nat):Int)->a=b:=by{intro x y _ _ hx hy a ha b hb he;have h1:=ho.closed _ (Ga hx) a ha;have h2:=ho.closed _ (Ga hy) b hb;have h3:=YS h1 h2 ia;have h4:=(((g.table _ (ho.inside _ (Ga hx))).inner (Vc ha)).2.2.2.2.2.2.2 a ha).1;have h5:=(((g.table _ (ho.inside _ (Ga hy))).inner (Vc hb)).2.2.2.2.2.2.2 b hb).1;omega}
 refine⟨?_,?_,?_,g.dom⟩
 {intro k hk;rw[pj]at hk;have hx:=ho.inside _ (Ga hk);have hp:=g.table _ hx;rw[Pr hk];refine⟨fun he=>?_,fun he=>?_⟩;{exact hp.leaf (by simpa using he)};{(have hne:(t.getD o[k] default).kids≠[]:=by simpa using he);have hi':=hp.inner hne;refine⟨hi'.1,hi'.2.1,hi'.2.2.1,hi'.2.2.2.1,by rw[Sa];exact hi'.2.2.2.2.1,hi'.2.2.2.2.2.1,TJ _ (fun a ha b hb he=>j3 k k hk hk hk hk a ha b hb he) hi'.2.2.2.2.2.2.1,?_⟩;intro j hj;obtain⟨a,ha,rfl⟩:=List.mem_map.1 hj;have hm:=ho.closed _ (Ga hk) a ha;refine⟨Ab _,?_,?_⟩;{rw[pj,Gb];exact Ub hm};{show _<Fb nf ((ue t o).getD ((o.idxOf a.toNat:Nat):Int).toNat default);rw[Gb,zL hm];exact(hi'.2.2.2.2.2.2.2 a ha).2.2}}}
 ·intro k hk c fc
  rw[pj]at hk;have hx:=ho.inside _ (Ga hk)
  show M (o.getD k 0) c=_
  rw[Eb _ _ _ hk,Pr hk,g.reads _ hx c fc];by_cases hne:(t.getD o[k] default).kids=[]
  {rw[if_pos hne,if_pos (show(t.getD o[k] default).kids.map (fun x=>((o.idxOf x.toNat:Nat):Int))=[] by rw[hne];rfl)]}
  ·have hm:=Oi (g.table _ hx) hne (c (t.getD o[k] default).fact.toNat)
   have hc:=ho.closed _ (Ga hk) _ hm;have h2:=Ub hc;have hlen:=((g.table _ hx).inner hne).2.2.2.2.1;have hnl:=aj (t.getD o[k] default).Ja (c (t.getD o[k] default).fact.toNat);rw[Aa hne,Aa (by simpa using hne)]
   have he:wg ⟨(t.getD o[k] default).fact,(t.getD o[k] default).Ja,(t.getD o[k] default).kids.map fun x=>((o.idxOf x.toNat:Nat):Int),(t.getD o[k] default).leaf⟩ (c (t.getD o[k] default).fact.toNat)=
     ((o.idxOf (wg (t.getD o[k] default) (c (t.getD o[k] default).fact.toNat)).toNat:Nat):Int):=by
    show((t.getD o[k] default).kids.map fun x=>((o.idxOf x.toNat:Nat):Int)).getD (Yd (t.getD o[k] default).Ja (c (t.getD o[k] default).fact.toNat)) 0=_
    rw[Xn _ _ _ _ 0 ia]
    rfl
   rw[he,Gb]
   show _=M (o.getD (o.idxOf _) 0) c
   rw[Eb _ _ _ h2,Dd h2]
 {(unfold ue);refine Tp _ o ho.nodup ?_;intro x hx y hy he;simp only[Dn.mk.injEq]at he;obtain⟨i,hi',rfl⟩:=List.mem_iff_getElem.1 hx;obtain⟨j,hj,rfl⟩:=List.mem_iff_getElem.1 hy;refine ar g.nodup (ho.inside _ hx) (ho.inside _ hy) ?_;have hk:=Uy (f:=fun x:Int=>((o.idxOf x.toNat:Nat):Int)) (fun a ha b hb h=>j3 i j hi' hj hi' hj a ha b hb h) he.2.2.1;have e1:=he.1;have e2:=he.2.1;have e4:=he.2.2.2;revert hk e1 e2 e4;generalize t.getD o[i] default=n;generalize t.getD o[j] default=m;intro hk e1 e2 e4;(cases n;cases m);simp_all}
theorem ay (g:Te nf lo hi t M){f x:Nat}(hx:x<t.length)(hf:nf<f):
  ue (ue t (Yb t f [] x)) (Yb (ue t (Yb t f [] x)) f [] 0)=ue t (Yb t f [] x):=by
 obtain⟨ho,u,hu⟩:=Hl g.table hx hf;have g':=Ir g ho;refine(Hp g g' hx (y:=0) (by rw[pj,hu];simp) ?_ f).symm;intro c _;rw[hu]
 rfl
end
section
variable {nf : Nat} {lo hi : Nat -> Int} {t : List Dn} {M : Nat -> (Nat -> Int) -> Bool}
def Mn (n:Dn):Dn:=⟨n.fact,n.Ja,n.kids,if n.kids=[]then !n.leaf else n.leaf⟩
def xh (t:List Dn):List Dn:=t.map Mn
theorem Mq {k:Nat}(h:k<t.length):(xh t).getD k default=Mn (t.getD k default):=by
 unfold xh;rw[Xn _ _ _ _ default h]
theorem AL (n:Dn):Fb nf (Mn n)=Fb nf n:=rfl
theorem YO {n m:Dn}(h:Mn n=Mn m):n=m:=by
 cases n;cases m
 simp only[Mn,Dn.mk.injEq]at h;obtain⟨h1,h2,h3,h4⟩:=h;subst h1 h2 h3
 split at h4<;>simp_all
theorem pN (g:Te nf lo hi t M):Te nf lo hi (xh t) (fun k c=> !M k c):=by
 have hl:(xh t).length=t.length:=by unfold xh;rw[Sa]
 refine⟨?_,?_,?_,g.dom⟩
 ·intro k hk
  rw[hl]at hk;have hp:=g.table k hk;rw[Mq hk];refine⟨fun h=>hp.leaf h,fun h=>?_⟩;have h:(t.getD k default).kids≠[]:=h;have hi':=hp.inner h;refine⟨?_,hi'.2.1,hi'.2.2.1,hi'.2.2.2.1,hi'.2.2.2.2.1,hi'.2.2.2.2.2.1,hi'.2.2.2.2.2.2.1,?_⟩
  ·show(if(t.getD k default).kids=[]then !(t.getD k default).leaf else(t.getD k default).leaf)=false
   rw[Aa h];exact hi'.1
  {intro j hj;have h1:=hi'.2.2.2.2.2.2.2 j hj;refine⟨h1.1,by rw[hl];exact h1.2.1,?_⟩;show _<Fb nf ((xh t).getD j.toNat default);rw[Mq h1.2.1,AL];exact h1.2.2}
 ·intro k hk c fc
  rw[hl]at hk;rw[Mq hk]
  show(!M k c)=if(t.getD k default).kids=[]then(if(t.getD k default).kids=[]then !(t.getD k default).leaf else(t.getD k default).leaf)else !M (wg (t.getD k default) (c (t.getD k default).fact.toNat)).toNat c
  rw[g.reads k hk c fc];by_cases h:(t.getD k default).kids=[]
  {simp only[if_pos h]}
  {simp only[Aa h]}
 {exact Tp _ t g.nodup fun x _ y _ h=>YO h}
theorem uH {t t':List Dn}(h:∀k,(t.getD k default).kids=(t'.getD k default).kids):∀(f:Nat) (o:List Nat) (x:Nat),Yb t f o x=Yb t' f o x:=by
 intro f
 induction f with| zero=>intro o x;rfl| succ f ih=>{intro o x;(have he:(fun(o:List Nat) (k:Int)=>Yb t f o k.toNat)=fun o k=>Yb t' f o k.toNat:=by{funext o k;exact ih o k.toNat});unfold Yb;rw[h x,he]}
theorem qN (t:List Dn)(k:Nat):((xh t).getD k default).kids=(t.getD k default).kids:=by
 rcases Kc k t.length with h | h
 {rw[Mq h];rfl}
 {unfold xh;rw[Ra,Ra,Kb,Lh h];rfl}
end
section
variable {nf : Nat} {lo hi : Nat -> Int} {t : List Dn} {M : Nat -> (Nat -> Int) -> Bool}
def Xk (n:Dn):Bool:= !n.kids.isEmpty || n.leaf
def Ch (t:List Dn)(n:Dn):Nat:=n.kids.findIdx fun k=>Xk (t.getD k.toNat default)
def ij (t:List Dn):Nat->Nat->(Nat->Int)->(Nat->Int)×Nat
 | 0,x,c=>(c,x)
 | f+1,x,c=>
  if(t.getD x default).kids=[]then(c,x)
  else ij t f ((t.getD x default).kids.getD (Ch t (t.getD x default)) 0).toNat
   (if 0<Ch t (t.getD x default)then Yl c (t.getD x default).fact.toNat ((t.getD x default).Ja.getD (Ch t (t.getD x default)-1) 0)else c)
theorem ul {n:Dn}(h:Xk n=false):n.kids=[]/\ n.leaf=false:=by
 unfold Xk at h;cases hk:n.kids<;>simp_all
theorem My (g:Te nf lo hi t M){x:Nat}(hx:x<t.length)(hk:(t.getD x default).kids≠[]):Ch t (t.getD x default)<(t.getD x default).kids.length:=by
 have hin:=(g.table x hx).inner hk
 obtain⟨a,b,l,he⟩:∃a b l,(t.getD x default).kids=a::b::l:=by{have h1:=hin.2.2.2.2.1;have h2:=hin.2.2.2.1;cases hc:(t.getD x default).Ja with| nil=>exact absurd hc h2| cons c cs=>{rw[hc]at h1;cases Qv:(t.getD x default).kids with| nil=>rw[Qv]at h1;simp at h1| cons a m=>{cases m with| nil=>rw[Qv]at h1;simp at h1| cons b l=>exact⟨a,b,l,rfl⟩}}}
 unfold Ch;refine List.findIdx_lt_length.2 ?_;have ha:=hin.2.2.2.2.2.2.2 a (by rw[he];exact Na ..);have hb:=hin.2.2.2.2.2.2.2 b (by rw[he];exact La _ (Na ..));by_cases h1:Xk (t.getD a.toNat default)=true
 {exact⟨a,by rw[he];exact Na ..,h1⟩}
 {by_cases h2:Xk (t.getD b.toNat default)=true;{exact⟨b,by rw[he];exact La _ (Na ..),h2⟩};{exfalso;have f1:=ul (n:=t.getD a.toNat default) (Bool.eq_false_iff.2 h1);have f2:=ul (n:=t.getD b.toNat default) (Bool.eq_false_iff.2 h2);have p1:=(g.table _ ha.2.1).leaf f1.1;have p2:=(g.table _ hb.2.1).leaf f2.1;have hab:a.toNat=b.toNat:=by{refine ar g.nodup ha.2.1 hb.2.1 ?_;revert f1 f2 p1 p2;generalize t.getD a.toNat default=n;generalize t.getD b.toNat default=m;intro f1 f2 p1 p2;(cases n;cases m);simp_all};have iO:=hin.2.2.2.2.2.2.1;rw[he]at iO;have:=ha.1;have:=hb.1;exact iO.1 ia}}
end
section
variable {nf : Nat} {lo hi : Nat -> Int} {t : List Dn} {M : Nat -> (Nat -> Int) -> Bool}
theorem tu :∀(l:List Int) (u v:Int),u<=v->(∀c∈l,¬(u<c/\ c<=v))->Yd l u=Yd l v
 | [],_,_,_,_=>rfl
 | c::l,u,v,huv,h=>by{have h0:=h c (Na ..);(rcases Int.lt_or_le u c with h1 | h1);{rw[Gj h1,Gj ia]};{rw[Th h1,Th ia,tu l u v huv fun c hc=>h c (La _ hc)]}}
theorem Tj {h:Int}:∀(l:List Int) (b:Int),Xe h b l->∀s∈l,b<s/\ s<=h
 | [],_,_,_,hs=>by simp at hs
 | c::l,b,hc,s,hs=>by{have h1:=hc.1;(rcases List.mem_cons.1 hs with hs | hs);{rw[hs];exact⟨h1,hc.2.1⟩};{have:=Tj l c hc.2.2 s hs;exact⟨ia,this.2⟩}}
theorem Cy {h:Int}:∀(l:List Int) (b v:Int),Xe h b l->b<=v->
  (b::l).getD (Yd l v) 0<=v/\ b<=(b::l).getD (Yd l v) 0/\ ∀s∈b::l,s<=v->s<=(b::l).getD (Yd l v) 0
 | [],b,v,_,hv=>⟨hv,Jc _,fun s hs _=>by simp at hs;subst hs;exact Jc _⟩
 | c::l,b,v,hc,hv=>by{have h1:=hc.1;(rcases Int.lt_or_le v c with h2 | h2);{rw[Gj h2,Nf];refine⟨hv,Jc _,fun s hs uI=>?_⟩;(rcases List.mem_cons.1 hs with hs | hs);{rw[hs];exact Jc _};{(rcases List.mem_cons.1 hs with hs | hs);{omega};{have:=Tj l c hc.2.2 s hs;omega}}};{rw[Th h2,List.getD_cons_succ];have ih:=Cy l c v hc.2.2 h2;refine⟨ih.1,by have:=ih.2.1;omega,fun s hs uI=>?_⟩;(rcases List.mem_cons.1 hs with hs | hs);{have:=ih.2.1;omega};{exact ih.2.2 s hs uI}}}
theorem Vy {h:Int}{l Ja:List Int}{b v:Int}(hc:Xe h b l)(hv:b<=v)(hsub:∀c∈Ja,c∈b::l):Yd Ja ((b::l).getD (Yd l v) 0)=Yd Ja v:=by
 have hs:=Cy l b v hc hv;refine tu _ _ _ hs.1 ?_;intro c hm hcc;have:=hs.2.2 c (hsub c hm) hcc.2;omega
def Rc (t:List Dn)(x i:Nat)(v:Int):Nat:=
 if(t.getD x default).kids≠[]/\ (t.getD x default).fact=(i:Int)then(wg (t.getD x default) v).toNat else x
theorem gw (g:Te nf lo hi t M){x i:Nat}(hx:x<t.length){c:Nat->Int}(fc:ee nf lo hi c):M (Rc t x i (c i)) c=M x c:=by
 unfold Rc
 split
 {next h=>rw[g.reads x hx c fc,Aa h.1,h.2,Gb]}
 {rfl}
theorem Ji (g:Te nf lo hi t M){x i:Nat}(hx:x<t.length)(hi':i<nf)(hr:i<=Fb nf (t.getD x default))(v:Int):Rc t x i v<t.length/\ i<Fb nf (t.getD (Rc t x i v) default):=by
 unfold Rc
 split
 ·next h=>
  have hm:=((g.table x hx).inner h.1).2.2.2.2.2.2.2 _ (Oi (g.table x hx) h.1 v);have h2:(t.getD x default).fact.toNat<Fb nf (t.getD (wg (t.getD x default) v).toNat default):=hm.2.2;rw[h.2,Gb]at h2;exact⟨hm.2.1,h2⟩
 ·next h=>
  refine⟨hx,?_⟩;rcases Kc i (Fb nf (t.getD x default))with h1 | h1
  {exact h1}
  {exfalso;(have h2:i=Fb nf (t.getD x default):=ia);by_cases hk:(t.getD x default).kids=[];{unfold Fb at h2;rw[if_pos hk]at h2;omega};{have h3:=((g.table x hx).inner hk).2.1;unfold Fb at h2;rw[Aa hk]at h2;exact h ⟨hk,ia⟩}}
theorem iw {x i:Nat}{l:List Int}{b v:Int}{h:Int}(hc:Xe h b l)(hv:b<=v)(hsub:(t.getD x default).kids≠[]->(t.getD x default).fact=(i:Int)->∀c∈(t.getD x default).Ja,c∈b::l):
  Rc t x i ((b::l).getD (Yd l v) 0)=Rc t x i v:=by
 unfold Rc
 split
 ·next hk=>
  unfold wg;rw[Vy hc hv (hsub hk.1 hk.2)]
 {rfl}
theorem br {m:List Dn}(hm:Made nf lo hi m){i:Nat}(hi':i<nf)(k0:Int)(ss ks:List Int)(hl:ks.length=ss.length)(hc:Xe (hi i) (lo i) ss)
  (hk:∀k∈k0::ks,0<=k/\ k.toNat<m.length/\ i<Fb nf (m.getD k.toNat default)) {F:(Nat->Int)->Bool} {G:Int->(Nat->Int)->Bool}
  (hG:∀j,j<(k0::ks).length->∀c,ee nf lo hi c->xg m ((k0::ks).getD j 0).toNat c=G ((lo i::ss).getD j 0) c)
  (hF:∀c,ee nf lo hi c->F c=G ((lo i::ss).getD (Yd ss (c i)) 0) c):
  ∀c,ee nf lo hi c->xg (Mc m i (lo i::ss) (k0::ks)).1 (Mc m i (lo i::ss) (k0::ks)).2 c=F c:=by
 intro c fc;rw[(Fl hm hi' (lo i) k0 ss ks hl hc hk).2.2.2.2 c fc,hF c fc];refine hG _ ?_ c fc;have:=aj ss (c i);rw[ib];omega
theorem Vv {a b:List Dn}{A B:Nat->(Nat->Int)->Bool}(ga:Te nf lo hi a A)(gb:Te nf lo hi b B){x y:Nat}(hx:x<a.length)(hy:y<b.length)
  {m:List Dn} (hm:Made nf lo hi m) {i:Nat} (hi':i<nf) (k0:Int) (ss ks:List Int) (hl:ks.length=ss.length) (hc:Xe (hi i) (lo i) ss)
  (hk:∀k∈k0::ks,0<=k/\ k.toNat<m.length/\ i<Fb nf (m.getD k.toNat default))
  (NV:(a.getD x default).kids≠[]->(a.getD x default).fact=(i:Int)->∀c∈(a.getD x default).Ja,c∈lo i::ss)
  (IC:(b.getD y default).kids≠[]->(b.getD y default).fact=(i:Int)->∀c∈(b.getD y default).Ja,c∈lo i::ss)
  (hG:∀j,j<(k0::ks).length->∀c,ee nf lo hi c->xg m ((k0::ks).getD j 0).toNat c=(A (Rc a x i ((lo i::ss).getD j 0)) c&& B (Rc b y i ((lo i::ss).getD j 0)) c)):
  ∀c,ee nf lo hi c->xg (Mc m i (lo i::ss) (k0::ks)).1 (Mc m i (lo i::ss) (k0::ks)).2 c=(A x c&& B y c):=by
 refine br hm hi' k0 ss ks hl hc hk (F:=fun c=>A x c&& B y c) (G:=fun v c=>A (Rc a x i v) c&& B (Rc b y i v) c) hG ?_;intro c fc;have hv:=(fc i hi').1;rw[iw hc hv NV,iw hc hv IC,gw ga hx fc,gw gb hy fc]
end
section
variable {nf : Nat} {lo hi : Nat -> Int} {a b : List Dn} {A B : Nat -> (Nat -> Int) -> Bool}
abbrev pe :=List ((Nat×Nat)×Nat)
def Pb (nf:Nat)(a b:List Dn)(x y:Nat):Nat:=min (Fb nf (a.getD x default)) (Fb nf (b.getD y default))
def ui (nf:Nat)(a b:List Dn)(S:Nat->Nat->List Int)(L:Nat):Nat->List Dn->pe->Nat->Nat->(List Dn×pe)×Nat
 | 0,m,dn,_,_=>((m,dn),0)
 | f+1,m,dn,x,y=>
  match dn.lookup (x,y)with
  | some k=>((m,dn),k)
  | none=>
   if Pb nf a b x y=nf\/L<m.length then
    (((Md m ⟨0,[],[],(a.getD x default).leaf&& (b.getD y default).leaf⟩).1,dn),(Md m ⟨0,[],[],(a.getD x default).leaf&& (b.getD y default).leaf⟩).2)
   else
    let r:=(S x y).foldl (fun(st:(List Dn×pe)×List Int) v=>
     let r:=ui nf a b S L f st.1.1 st.1.2 (Rc a x (Pb nf a b x y) v) (Rc b y (Pb nf a b x y) v)
     (r.1,st.2++[(r.2:Int)])) ((m,dn),[])
    let q:=Mc r.1.1 (Pb nf a b x y) (S x y) r.2
    ((q.1,((x,y),q.2)::r.1.2),q.2)
structure Fj (nf : Nat) (lo hi : Nat -> Int) (a b : List Dn) (A B : Nat -> (Nat -> Int) -> Bool) (m : List Dn) (x y k : Nat) : Prop where
 lt:k<m.length
 Xx:Pb nf a b x y<=Fb nf (m.getD k default)
 means:∀c,ee nf lo hi c->xg m k c=(A x c&& B y c)
structure Wx (nf : Nat) (lo hi : Nat -> Int) (a b : List Dn) (A B : Nat -> (Nat -> Int) -> Bool) (R : Nat -> Nat -> Prop) (m : List Dn) (dn : pe) : Prop where
 made:Made nf lo hi m
 from_:∀k,k<m.length->(m.getD k default).kids≠[]->∃x y,R x y/\ (m.getD k default).fact=(Pb nf a b x y:Nat)/\ ∀c,ee nf lo hi c->xg m k c=(A x c&& B y c)
 Cj:∀x y k,dn.lookup (x,y)=some k->Fj nf lo hi a b A B m x y k
theorem Fj.more {m:List Dn}{x y k:Nat}(h:Fj nf lo hi a b A B m x y k)(u:List Dn):Fj nf lo hi a b A B (m++u) x y k:=by
 have hg:(m++u).getD k default=m.getD k default:=by{rw[Eb _ _ _ (by rw[Ea];have:=h.lt;omega),Eb _ _ _ h.lt,Qd h.lt]}
 refine⟨by rw[Ea];have:=h.lt;omega,by rw[hg];exact h.Xx,?_⟩;intro c fc;rw[Ik m c h.lt u];exact h.means c fc
theorem Rt {R:Nat->Nat->Prop}{m:List Dn}{n:Dn}(_ho:Fs nf lo hi m n)(_hm:Made nf lo hi m)
  (PM:∀k,k<m.length->(m.getD k default).kids≠[]->∃x y,R x y/\ (m.getD k default).fact=(Pb nf a b x y:Nat)/\ ∀c,ee nf lo hi c->xg m k c=(A x c&& B y c))
  (hn:n.kids≠[]->∃x y,R x y/\ n.fact=(Pb nf a b x y:Nat)/\ ∀c,ee nf lo hi c->xg (Md m n).1 (Md m n).2 c=(A x c&& B y c)):
  ∀k,k<(Md m n).1.length->((Md m n).1.getD k default).kids≠[]->∃x y,R x y/\ ((Md m n).1.getD k default).fact=(Pb nf a b x y:Nat)/\ ∀c,ee nf lo hi c->xg (Md m n).1 k c=(A x c&& B y c):=by
 unfold Md at hn⊢;by_cases h:n∈m
 {rw[if_pos h];exact PM}
 {rw[Aa h]at hn⊢;intro k hk hkk;have hk:k<(m++[n]).length:=hk;rw[Ea]at hk;have hkk:((m++[n]).getD k default).kids≠[]:=hkk;show ∃x y,R x y/\ ((m++[n]).getD k default).fact=(Pb nf a b x y:Nat)/\ ∀c,ee nf lo hi c->xg (m++[n]) k c=(A x c&& B y c);(rcases Kc k m.length with h1 | h1);{rw[Cf _ _ _ h1]at hkk⊢;obtain⟨x,y,h2,h3,h4⟩:=PM k h1 hkk;exact⟨x,y,h2,h3,fun c fc=>by rw[ot _ _ _ h1];exact h4 c fc⟩};{(have:k=m.length:=by simp at hk;omega);subst this;rw[pd]at hkk⊢;exact hn hkk}}
theorem BJ (ga:Te nf lo hi a A)(gb:Te nf lo hi b B){R:Nat->Nat->Prop}{S:Nat->Nat->List Int}{L:Nat}
  (hcap:∀m dn,Wx nf lo hi a b A B R m dn->m.length<=L) (QM:∀x y,R x y->x<a.length/\ y<b.length)
  (hRs:∀x y v,R x y->Pb nf a b x y<nf->v∈S x y->R (Rc a x (Pb nf a b x y) v) (Rc b y (Pb nf a b x y) v))
  (hS:∀x y,R x y->Pb nf a b x y<nf->∃ss,S x y=lo (Pb nf a b x y)::ss/\ Xe (hi (Pb nf a b x y)) (lo (Pb nf a b x y)) ss/\
   ((a.getD x default).kids≠[]->(a.getD x default).fact=(Pb nf a b x y:Nat)->∀c∈(a.getD x default).Ja,c∈lo (Pb nf a b x y)::ss)/\
   ((b.getD y default).kids≠[]->(b.getD y default).fact=(Pb nf a b x y:Nat)->∀c∈(b.getD y default).Ja,c∈lo (Pb nf a b x y)::ss)):
  ∀(f:Nat) (m:List Dn) (dn:pe) (x y:Nat),Wx nf lo hi a b A B R m dn->R x y->nf-Pb nf a b x y<f->
  Wx nf lo hi a b A B R (ui nf a b S L f m dn x y).1.1 (ui nf a b S L f m dn x y).1.2/\ Fj nf lo hi a b A B (ui nf a b S L f m dn x y).1.1 x y (ui nf a b S L f m dn x y).2/\
  ∃u,(ui nf a b S L f m dn x y).1.1=m++u:=by
 intro f
 induction f with
 | zero=>intro m dn x y _ _ h;omega
 | succ f ih=>
  intro m dn x y hI hR hf;have hxy:=QM x y hR;unfold ui;cases hlk:dn.lookup (x,y)with
  | some k=>exact⟨hI,hI.Cj x y k hlk,[],la⟩
  | none=>
   dsimp only
   have hL:=hcap m dn hI;have hle:Pb nf a b x y<=nf:=Wa (Uc _ _) (ig ga.table hxy.1);by_cases hend:Pb nf a b x y=nf\/L<m.length
   {rw[if_pos hend];(have hnf:Pb nf a b x y=nf:=by rcases hend with h | h;exact h;omega);have ho:Fs nf lo hi m ⟨0,[],[],(a.getD x default).leaf&& (b.getD y default).leaf⟩:=⟨fun _=>⟨rfl,rfl⟩,fun h=>absurd rfl h⟩;obtain⟨h1,h2,h3,u,h4⟩:=Ao hI.made ho;refine⟨⟨h1,Rt ho hI.made hI.from_ (fun h=>absurd rfl h),?_⟩,⟨h2,?_,?_⟩,u,h4⟩;{intro x' y' k' hl;show Fj nf lo hi a b A B (Md m _).1 x' y' k';rw[h4];exact(hI.Cj x' y' k' hl).more u};{rw[h3];unfold Fb;rw[if_pos rfl];exact hle};{intro c fc;rw[h1.reads _ h2 c fc,h3];have ha:(a.getD x default).kids=[]:=by{apply Classical.byContradiction;intro h;have h5:=((ga.table x hxy.1).inner h).2.2.1;have h6:Pb nf a b x y<=Fb nf (a.getD x default):=Uc _ _;unfold Fb at h6;rw[Aa h]at h6;omega};have hb:(b.getD y default).kids=[]:=by{apply Classical.byContradiction;intro h;have h5:=((gb.table y hxy.2).inner h).2.2.1;have h6:Pb nf a b x y<=Fb nf (b.getD y default):=ff _ _;unfold Fb at h6;rw[Aa h]at h6;omega};rw[ga.reads x hxy.1 c fc,gb.reads y hxy.2 c fc,if_pos ha,if_pos hb];rfl}}
   ·rw[Aa hend]
    have hi':Pb nf a b x y<nf:=by omega
    obtain⟨ss,uU,hch,NV,IC⟩:=hS x y hR hi';have hRv:=fun v=>hRs x y v hR hi'
    have C8:Pb nf a b x y<=Fb nf (a.getD x default):=Uc _ _;have rJ:Pb nf a b x y<=Fb nf (b.getD y default):=ff _ _
    have key:∀(l:List Int),(∀v∈l,v∈S x y)->∀(st:(List Dn×pe)×List Int) (pre:List Int),Wx nf lo hi a b A B R st.1.1 st.1.2->st.2.length=pre.length->
      (∀j,j<st.2.length->0<=st.2.getD j 0/\ Fj nf lo hi a b A B st.1.1 (Rc a x (Pb nf a b x y) (pre.getD j 0)) (Rc b y (Pb nf a b x y) (pre.getD j 0)) (st.2.getD j 0).toNat)->
      let r:=l.foldl (fun(st:(List Dn×pe)×List Int) v=>
       let r:=ui nf a b S L f st.1.1 st.1.2 (Rc a x (Pb nf a b x y) v) (Rc b y (Pb nf a b x y) v)
       (r.1,st.2++[(r.2:Int)])) st
      Wx nf lo hi a b A B R r.1.1 r.1.2/\ r.2.length=(pre++l).length/\
      (∀j,j<r.2.length->0<=r.2.getD j 0/\ Fj nf lo hi a b A B r.1.1 (Rc a x (Pb nf a b x y) ((pre++l).getD j 0)) (Rc b y (Pb nf a b x y) ((pre++l).getD j 0)) (r.2.getD j 0).toNat)/\ ∃u,r.1.1=st.1.1++u:=by
     intro l
     induction l with
     | nil=>intro _ st pre h1 h2 h3;exact⟨h1,by simpa using h2,by simpa using h3,[],la⟩
     | cons v l ihl=>
      intro hl st pre h1 h2 h3;have hv:=hRv v (hl v (Na ..));have s1:=Ji ga hxy.1 hi' C8 v;have s2:=Ji gb hxy.2 hi' rJ v
      have Ew:Pb nf a b x y<Pb nf a b (Rc a x (Pb nf a b x y) v) (Rc b y (Pb nf a b x y) v):=by{show _<min _ _;omega}
      have hr:=ih st.1.1 st.1.2 _ _ h1 hv (by
       have:Pb nf a b (Rc a x (Pb nf a b x y) v) (Rc b y (Pb nf a b x y) v)<=nf:=Wa (Uc _ _) (ig ga.table s1.1)
       omega)
      obtain⟨u,hu⟩:=hr.2.2
      have hn:=ihl (fun w hw=>hl w (La _ hw)) ((ui nf a b S L f st.1.1 st.1.2 (Rc a x (Pb nf a b x y) v) (Rc b y (Pb nf a b x y) v)).1,st.2++[((ui nf a b S L f st.1.1 st.1.2 (Rc a x (Pb nf a b x y) v) (Rc b y (Pb nf a b x y) v)).2:Int)]) (pre++[v]) hr.1
       (by simp[h2]) (by
        intro j hj
        have hj:j<(st.2++[((ui nf a b S L f st.1.1 st.1.2 (Rc a x (Pb nf a b x y) v) (Rc b y (Pb nf a b x y) v)).2:Int)]).length:=hj
        rw[Ea]at hj
        rcases Kc j st.2.length with WG | WG
        {have:=h3 j WG;rw[Cf _ _ _ WG,Cf _ _ _ ia];refine⟨this.1,?_⟩;show Fj nf lo hi a b A B (ui nf a b S L f st.1.1 st.1.2 _ _).1.1 _ _ _;rw[hu];exact this.2.more u}
        ·have Mk:j=st.2.length:=by simp at hj;omega
         subst Mk
         rw[pd]
         rw[h2,pd]
         exact⟨Ab _,by rw[Gb];exact hr.2.1⟩)
      rw[Ud];rw[Ua]at hn;obtain⟨n1,n2,n3,w,n4⟩:=hn;exact⟨n1,n2,n3,u++w,by rw[n4];show(ui nf a b S L f st.1.1 st.1.2 _ _).1.1++w=_;rw[hu,Ua]⟩
    have hk:=key (S x y) (fun _ h=>h) ((m,dn),[]) [] hI rfl (fun j hj=>absurd hj (Ib j));revert hk
    generalize(S x y).foldl (fun(st:(List Dn×pe)×List Int) v=>
       let r:=ui nf a b S L f st.1.1 st.1.2 (Rc a x (Pb nf a b x y) v) (Rc b y (Pb nf a b x y) v)
       (r.1,st.2++[(r.2:Int)])) ((m,dn),[])=r
    intro hk;obtain⟨k1,k2,k3,u,k4⟩:=hk;rw[Ya,uU]at k2;simp only[Ya]at k3;rw[uU]at k3⊢;obtain⟨⟨rm,rd⟩,rk⟩:=r;simp only at k1 k2 k3 k4;obtain⟨k0,ks,rfl⟩:∃k0 ks,rk=k0::ks:=by cases rk with | nil=>simp at k2 | cons p q=>exact⟨p,q,rfl⟩
    have hl:ks.length=ss.length:=by simpa using k2
    have hkk:∀k∈k0::ks,0<=k/\ k.toNat<rm.length/\ Pb nf a b x y<Fb nf (rm.getD k.toNat default):=by{intro k hm;obtain⟨j,hj,rfl⟩:=List.mem_iff_getElem.1 hm;have h1:=k3 j hj;rw[Eb _ _ _ hj]at h1;have s1:=Ji ga hxy.1 hi' C8 ((lo (Pb nf a b x y)::ss).getD j 0);have s2:=Ji gb hxy.2 hi' rJ ((lo (Pb nf a b x y)::ss).getD j 0);have h2:=h1.2.Xx;have h3:Pb nf a b x y<Pb nf a b (Rc a x (Pb nf a b x y) ((lo (Pb nf a b x y)::ss).getD j 0)) (Rc b y (Pb nf a b x y) ((lo (Pb nf a b x y)::ss).getD j 0)):=by{show _<min _ _;omega};exact⟨h1.1,h1.2.lt,ia⟩}
    have hin:=Fl k1.made hi' (lo (Pb nf a b x y)) k0 ss ks hl hch hkk;have mA:=Vv ga gb hxy.1 hxy.2 k1.made hi' k0 ss ks hl hch hkk NV IC (fun j hj c fc=>(k3 j hj).2.means c fc);obtain⟨q1,q2,⟨w,q3⟩,q4,_⟩:=hin;have cn:Fj nf lo hi a b A B (Mc rm (Pb nf a b x y) (lo (Pb nf a b x y)::ss) (k0::ks)).1 x y (Mc rm (Pb nf a b x y) (lo (Pb nf a b x y)::ss) (k0::ks)).2:=⟨q2,q4,mA⟩;refine⟨⟨q1,?_,?_⟩,cn,u++w,by show(Mc rm _ _ _).1=_;rw[q3,k4,Ua]⟩
    ·show ∀k,k<(Mc rm (Pb nf a b x y) (lo (Pb nf a b x y)::ss) (k0::ks)).1.length->_
     have Uj:=mA;unfold Mc at Uj⊢;simp only[]at Uj⊢
     split
     {exact k1.from_}
     ·next hne=>
      rw[Aa hne]at Uj;refine Rt ?_ k1.made k1.from_ (fun _=>⟨x,y,hR,rfl,Uj⟩);have hz1:(ss.zip ks).map Prod.fst=ss:=List.map_fst_zip ia;have hz2:(ss.zip ks).map Prod.snd=ks:=List.map_snd_zip ia;have hdl:=Bo (ss.zip ks) k0;refine⟨fun he=>by simp at he,fun _=>⟨rfl,Ab _,by simpa using hi',?_,by simp[hdl],?_,Iq _ _,?_⟩⟩
      {intro he;apply hne;have he:(Hh k0 (ss.zip ks)).1=[]:=he;rw[he]at hdl;(have:(Hh k0 (ss.zip ks)).2=[]:=by simpa using hdl);exact this}
      {have:=Zk (hi':=hi (Pb nf a b x y)) (ss.zip ks) k0 (lo (Pb nf a b x y)) (by rw[hz1];exact hch);simpa using this}
      {intro k hm;(rcases List.mem_cons.1 hm with hm | hm);{rw[hm];simpa using hkk k0 (Na ..)};{have h5:=Jq (ss.zip ks) k0 k hm;rw[hz2]at h5;simpa using hkk k (La _ h5)}}
    {intro x' y' k' Zi;show Fj nf lo hi a b A B (Mc rm (Pb nf a b x y) (lo (Pb nf a b x y)::ss) (k0::ks)).1 x' y' k';have Zi:List.lookup (x',y') (((x,y),(Mc rm (Pb nf a b x y) (lo (Pb nf a b x y)::ss) (k0::ks)).2)::rd)=some k':=Zi;rw[Db]at Zi;by_cases he:(x',y')=(x,y);{rw[he]at Zi;simp only[beq_self_eq_true]at Zi;injection he with e1 e2;subst e1 e2;injection Zi with e3;subst e3;exact cn};{(have:((x',y')==(x,y))=false:=by simpa using he);rw[this]at Zi;rw[q3];exact(k1.Cj x' y' k' Zi).more w}}
end
section
variable {nf : Nat} {lo hi : Nat -> Int} {σ κ : Type} [BEq κ] [LawfulBEq κ]
def Uk (nf:Nat)(OB:σ->Option Bool)(S:Nat->σ->List Int)(jw:Nat->σ->Int->σ)(key:Nat->σ->κ)(L:Nat):Nat->List Dn->List (κ×Nat)->Nat->σ->(List Dn×List (κ×Nat))×Nat
 | 0,m,dn,_,_=>((m,dn),0)
 | f+1,m,dn,i,s=>
  match OB s with
  | some bl=>(((Md m ⟨0,[],[],bl⟩).1,dn),(Md m ⟨0,[],[],bl⟩).2)
  | none=>
   if L<m.length\/i=nf then(((Md m ⟨0,[],[],false⟩).1,dn),(Md m ⟨0,[],[],false⟩).2)
   else match dn.lookup (key i s)with
   | some k=>((m,dn),k)
   | none=>
    let r:=(S i s).foldl (fun(st:(List Dn×List (κ×Nat))×List Int) v=>
     let r:=Uk nf OB S jw key L f st.1.1 st.1.2 (i+1) (jw i s v)
     (r.1,st.2++[(r.2:Int)])) ((m,dn),[])
    let q:=Mc r.1.1 i (S i s) r.2
    ((q.1,(key i s,q.2)::r.1.2),q.2)
structure Vn (nf : Nat) (lo hi : Nat -> Int) (F : σ -> (Nat -> Int) -> Bool) (m : List Dn) (i : Nat) (s : σ) (k : Nat) : Prop where
 lt:k<m.length
 Xx:i<=Fb nf (m.getD k default)
 means:∀c,ee nf lo hi c->xg m k c=F s c
structure Nn (nf : Nat) (lo hi : Nat -> Int) (F : σ -> (Nat -> Int) -> Bool) (key : Nat -> σ -> κ) (R : Nat -> σ -> Prop) (m : List Dn) (dn : List (κ × Nat)) : Prop where
 made:Made nf lo hi m
 from_:∀k,k<m.length->(m.getD k default).kids≠[]->∃i s,R i s/\ (m.getD k default).fact=(i:Int)/\ ∀c,ee nf lo hi c->xg m k c=F s c
 Cj:∀i s k,R i s->dn.lookup (key i s)=some k->Vn nf lo hi F m i s k
theorem Vn.more {F:σ->(Nat->Int)->Bool}{m:List Dn}{i:Nat}{s:σ}{k:Nat}(h:Vn nf lo hi F m i s k)(u:List Dn):Vn nf lo hi F (m++u) i s k:=by
 have hg:(m++u).getD k default=m.getD k default:=by{rw[Eb _ _ _ (by rw[Ea];have:=h.lt;omega),Eb _ _ _ h.lt,Qd h.lt]}
 refine⟨by rw[Ea];have:=h.lt;omega,by rw[hg];exact h.Xx,?_⟩;intro c fc;rw[Ik m c h.lt u];exact h.means c fc
theorem QB {F:σ->(Nat->Int)->Bool}{R:Nat->σ->Prop}{m:List Dn}{n:Dn}
  (PM:∀k,k<m.length->(m.getD k default).kids≠[]->∃i s,R i s/\ (m.getD k default).fact=(i:Int)/\ ∀c,ee nf lo hi c->xg m k c=F s c)
  (hn:n.kids≠[]->∃i s,R i s/\ n.fact=(i:Int)/\ ∀c,ee nf lo hi c->xg (Md m n).1 (Md m n).2 c=F s c):
  ∀k,k<(Md m n).1.length->((Md m n).1.getD k default).kids≠[]->∃i s,R i s/\ ((Md m n).1.getD k default).fact=(i:Int)/\ ∀c,ee nf lo hi c->xg (Md m n).1 k c=F s c:=by
 unfold Md at hn⊢;by_cases h:n∈m
 {rw[if_pos h];exact PM}
 {rw[Aa h]at hn⊢;intro k hk hkk;have hk:k<(m++[n]).length:=hk;rw[Ea]at hk;have hkk:((m++[n]).getD k default).kids≠[]:=hkk;show ∃i s,R i s/\ ((m++[n]).getD k default).fact=(i:Int)/\ ∀c,ee nf lo hi c->xg (m++[n]) k c=F s c;(rcases Kc k m.length with h1 | h1);{rw[Cf _ _ _ h1]at hkk⊢;obtain⟨x,y,h2,h3,h4⟩:=PM k h1 hkk;exact⟨x,y,h2,h3,fun c fc=>by rw[ot _ _ _ h1];exact h4 c fc⟩};{(have:k=m.length:=by simp at hk;omega);subst this;rw[pd]at hkk⊢;exact hn hkk}}
omit [LawfulBEq κ] in
theorem C3 {F:σ->(Nat->Int)->Bool}{key:Nat->σ->κ}{R:Nat->σ->Prop}{m:List Dn}{dn:List (κ×Nat)}(hI:Nn nf lo hi F key R m dn){i:Nat}(hi':i<=nf){s:σ}{bl:Bool}(hb:∀c,ee nf lo hi c->F s c=bl):
  Nn nf lo hi F key R (Md m ⟨0,[],[],bl⟩).1 dn/\ Vn nf lo hi F (Md m ⟨0,[],[],bl⟩).1 i s (Md m ⟨0,[],[],bl⟩).2/\ ∃u,(Md m ⟨0,[],[],bl⟩).1=m++u:=by
 have ho:Fs nf lo hi m ⟨0,[],[],bl⟩:=⟨fun _=>⟨rfl,rfl⟩,fun h=>absurd rfl h⟩;obtain⟨h1,h2,h3,u,h4⟩:=Ao hI.made ho;refine⟨⟨h1,QB hI.from_ (fun h=>absurd rfl h),?_⟩,⟨h2,?_,?_⟩,u,h4⟩
 {intro i' s' k' hr hl;rw[h4];exact(hI.Cj i' s' k' hr hl).more u}
 {rw[h3];unfold Fb;rw[if_pos rfl];exact hi'}
 {intro c fc;rw[h1.reads _ h2 c fc,h3,hb c fc];rfl}
theorem oS {F:σ->(Nat->Int)->Bool}{OB:σ->Option Bool}{S:Nat->σ->List Int}{jw:Nat->σ->Int->σ}{key:Nat->σ->κ}{R:Nat->σ->Prop}{L:Nat}
  (hcap:∀m dn,Nn nf lo hi F key R m dn->m.length<=L)
  (aaB:∀i s bl,R i s->OB s=some bl->∀c,ee nf lo hi c->F s c=bl) (hend:∀s,R nf s->OB s≠none) (hRi:∀i s,R i s->i<=nf)
  (hkey:∀i s i' s',R i s->R i' s'->key i s=key i' s'->i=i'/\ ∀c,ee nf lo hi c->F s c=F s' c)
  (hRg:∀i s v,R i s->OB s=none->i<nf->v∈S i s->R (i+1) (jw i s v))
  (hS:∀i s,R i s->OB s=none->i<nf->∃ss,S i s=lo i::ss/\ Xe (hi i) (lo i) ss/\ ∀c,ee nf lo hi c->F s c=F (jw i s ((lo i::ss).getD (Yd ss (c i)) 0)) c):
  ∀(f:Nat) (m:List Dn) (dn:List (κ×Nat)) (i:Nat) (s:σ),Nn nf lo hi F key R m dn->R i s->nf-i<f->
  Nn nf lo hi F key R (Uk nf OB S jw key L f m dn i s).1.1 (Uk nf OB S jw key L f m dn i s).1.2/\ Vn nf lo hi F (Uk nf OB S jw key L f m dn i s).1.1 i s (Uk nf OB S jw key L f m dn i s).2/\
  ∃u,(Uk nf OB S jw key L f m dn i s).1.1=m++u:=by
 intro f
 induction f with
 | zero=>intro m dn i s _ _ h;omega
 | succ f ih=>
  intro m dn i s hI hR hf;have hin:=hRi i s hR;unfold Uk;cases hc:OB s with
  | some bl=>exact C3 hI hin (aaB i s bl hR hc)
  | none=>
   dsimp only
   have hL:=hcap m dn hI
   have hi':i<nf:=by{(rcases Kc i nf with h | h);{exact h};{(have:i=nf:=ia);subst this;exact absurd hc (hend s hR)}}
   rw[Aa ia];cases hlk:dn.lookup (key i s)with
   | some k=>exact⟨hI,hI.Cj i s k hR hlk,[],la⟩
   | none=>
    dsimp only
    obtain⟨ss,uU,hch,hF⟩:=hS i s hR hc hi'
    have aaC:∀(l:List Int),(∀v∈l,v∈S i s)->∀(st:(List Dn×List (κ×Nat))×List Int) (pre:List Int),Nn nf lo hi F key R st.1.1 st.1.2->st.2.length=pre.length->
      (∀j,j<st.2.length->0<=st.2.getD j 0/\ Vn nf lo hi F st.1.1 (i+1) (jw i s (pre.getD j 0)) (st.2.getD j 0).toNat)->
      let r:=l.foldl (fun(st:(List Dn×List (κ×Nat))×List Int) v=>
       let r:=Uk nf OB S jw key L f st.1.1 st.1.2 (i+1) (jw i s v)
       (r.1,st.2++[(r.2:Int)])) st
      Nn nf lo hi F key R r.1.1 r.1.2/\ r.2.length=(pre++l).length/\
      (∀j,j<r.2.length->0<=r.2.getD j 0/\ Vn nf lo hi F r.1.1 (i+1) (jw i s ((pre++l).getD j 0)) (r.2.getD j 0).toNat)/\ ∃u,r.1.1=st.1.1++u:=by
     intro l
     induction l with
     | nil=>intro _ st pre h1 h2 h3;exact⟨h1,by simpa using h2,by simpa using h3,[],la⟩
     | cons v l ihl=>
      intro hl st pre h1 h2 h3;have hr:=ih st.1.1 st.1.2 (i+1) (jw i s v) h1 (hRg i s v hR hc hi' (hl v (Na ..))) ia;obtain⟨u,hu⟩:=hr.2.2
      have hn:=ihl (fun w hw=>hl w (La _ hw)) ((Uk nf OB S jw key L f st.1.1 st.1.2 (i+1) (jw i s v)).1,st.2++[((Uk nf OB S jw key L f st.1.1 st.1.2 (i+1) (jw i s v)).2:Int)]) (pre++[v]) hr.1
       (by simp[h2]) (by
        intro j hj
        have hj:j<(st.2++[((Uk nf OB S jw key L f st.1.1 st.1.2 (i+1) (jw i s v)).2:Int)]).length:=hj
        rw[Ea]at hj
        rcases Kc j st.2.length with WG | WG
        {have:=h3 j WG;rw[Cf _ _ _ WG,Cf _ _ _ ia];refine⟨this.1,?_⟩;show Vn nf lo hi F (Uk nf OB S jw key L f st.1.1 st.1.2 _ _).1.1 _ _ _;rw[hu];exact this.2.more u}
        ·have Mk:j=st.2.length:=by simp at hj;omega
         subst Mk
         rw[pd]
         rw[h2,pd]
         exact⟨Ab _,by rw[Gb];exact hr.2.1⟩)
      rw[Ud];rw[Ua]at hn;obtain⟨n1,n2,n3,w,n4⟩:=hn;exact⟨n1,n2,n3,u++w,by rw[n4];show(Uk nf OB S jw key L f st.1.1 st.1.2 _ _).1.1++w=_;rw[hu,Ua]⟩
    have hk:=aaC (S i s) (fun _ h=>h) ((m,dn),[]) [] hI rfl (fun j hj=>absurd hj (Ib j));revert hk
    generalize(S i s).foldl (fun(st:(List Dn×List (κ×Nat))×List Int) v=>
       let r:=Uk nf OB S jw key L f st.1.1 st.1.2 (i+1) (jw i s v)
       (r.1,st.2++[(r.2:Int)])) ((m,dn),[])=r
    intro hk;obtain⟨k1,k2,k3,u,k4⟩:=hk;rw[Ya,uU]at k2;simp only[Ya]at k3;rw[uU]at k3⊢;obtain⟨⟨rm,rd⟩,rk⟩:=r;simp only at k1 k2 k3 k4;obtain⟨k0,ks,rfl⟩:∃k0 ks,rk=k0::ks:=by cases rk with | nil=>simp at k2 | cons p q=>exact⟨p,q,rfl⟩
    have hl:ks.length=ss.length:=by simpa using k2
    have hkk:∀k∈k0::ks,0<=k/\ k.toNat<rm.length/\ i<Fb nf (rm.getD k.toNat default):=by{intro k hm;obtain⟨j,hj,rfl⟩:=List.mem_iff_getElem.1 hm;have h1:=k3 j hj;rw[Eb _ _ _ hj]at h1;have h2:=h1.2.Xx;exact⟨h1.1,h1.2.lt,ia⟩}
    have hin:=Fl k1.made hi' (lo i) k0 ss ks hl hch hkk;have mA:=br k1.made hi' k0 ss ks hl hch hkk (F:=F s) (G:=fun v=>F (jw i s v)) (fun j hj c fc=>(k3 j hj).2.means c fc) hF;obtain⟨q1,q2,⟨w,q3⟩,q4,_⟩:=hin;have cn:Vn nf lo hi F (Mc rm i (lo i::ss) (k0::ks)).1 i s (Mc rm i (lo i::ss) (k0::ks)).2:=⟨q2,q4,mA⟩;refine⟨⟨q1,?_,?_⟩,cn,u++w,by show(Mc rm _ _ _).1=_;rw[q3,k4,Ua]⟩
    ·show ∀k,k<(Mc rm i (lo i::ss) (k0::ks)).1.length->_
     have Uj:=mA;unfold Mc at Uj⊢;simp only[]at Uj⊢
     split
     {exact k1.from_}
     ·next hne=>
      rw[Aa hne]at Uj;exact QB k1.from_ (fun _=>⟨i,s,hR,rfl,Uj⟩)
    {intro i' s' k' hR' Zi;show Vn nf lo hi F (Mc rm i (lo i::ss) (k0::ks)).1 i' s' k';have Zi:List.lookup (key i' s') ((key i s,(Mc rm i (lo i::ss) (k0::ks)).2)::rd)=some k':=Zi;rw[Db]at Zi;by_cases he:key i' s'=key i s;{rw[he]at Zi;simp only[beq_self_eq_true]at Zi;injection Zi with e3;subst e3;obtain⟨e1,e2⟩:=hkey i' s' i s hR' hR he;subst e1;exact⟨cn.lt,cn.Xx,fun c fc=>by rw[e2 c fc];exact cn.means c fc⟩};{(have:(key i' s'==key i s)=false:=by simpa using he);rw[this]at Zi;rw[q3];exact(k1.Cj i' s' k' hR' Zi).more w}}
end
def Io :Int->List Int->List Int
 | _,[]=>[]
 | a,b::l=>if b=a then Io a l else b::Io b l
theorem cr {h:Int}:∀(l:List Int) (a:Int),(a::l).Pairwise (· <= ·)->(∀x∈l,x<=h)->Xe h a (Io a l)
 | [],_,_,_=>trivial
 | b::l,a,hp,hh=>by
  rw[List.pairwise_cons]at hp;have h1:=hp.1 b (Na ..);unfold Io
  split
  ·next he=>
   subst he;exact cr l b hp.2 fun x hx=>hh x (La _ hx)
  ·next he=>
   exact⟨ia,hh b (Na ..),cr l b hp.2 fun x hx=>hh x (La _ hx)⟩
theorem Qr :∀(l:List Int) (a x:Int),x∈a::Io a l↔x∈a::l
 | [],_,_=>Iff.rfl
 | b::l,a,x=>by
  unfold Io
  split
  ·next he=>
   subst he;rw[Qr l b x]
   simp
  {have ih:=Qr l b x;rw[He,ih,He (a:=x) (b:=a)]}
theorem Tt {lo h:Int}{l:List Int}(hp:l.Pairwise (· <= ·))(hb:∀x∈l,lo<=x/\ x<=h)(hm:lo∈l):∃ls ss,l=lo::ls/\ ss=Io lo ls/\ Xe h lo ss/\ ∀x,x∈lo::ss↔x∈l:=by
 cases l with| nil=>simp at hm| cons a ls=>{have ha:a=lo:=by{have h1:=(hb a (Na ..)).1;(rcases List.mem_cons.1 hm with h2 | h2);{exact h2.symm};{have:=(List.pairwise_cons.1 hp).1 lo h2;omega}};subst ha;exact⟨ls,_,rfl,rfl,cr ls a hp fun x hx=>(hb x (La _ hx)).2,Qr ls a⟩}
theorem IF :∀(n:Nat) (l:List Nat),l.Nodup->(∀x∈l,x<n)->l.length<=n
 | 0,l,_,h=>by cases l with| nil=>exact ja 0| cons x l=>exact absurd (h x (Na ..)) (Ib x)
 | n+1,l,nd,h=>by
  have h1:=IF n (l.erase n) (nd.erase n) (by
   intro x hx
   have h2:=h x (List.mem_of_mem_erase hx)
   have h3:x≠n:=fun he=>by subst he;exact(List.Nodup.not_mem_erase nd) hx
   omega)
  have h2:l.length-1<=(l.erase n).length:=by{rw[List.length_erase];split<;>omega}
  omega
theorem Is {α β:Type}(f:α->β):∀(l:List α),l.Nodup->(∀x∈l,∀y∈l,f x=f y->x=y)->(l.map f).Nodup
 | [],_,_=>ie
 | a::l,nd,inj=>by{rw[ni]at nd;rw[Va,ni];refine⟨?_,Is f l nd.2 fun x hx y hy=>inj x (La _ hx) y (La _ hy)⟩;intro hm;obtain⟨y,hy,he⟩:=List.mem_map.1 hm;exact nd.1 (inj a (Na ..) y (La _ hy) he.symm▸hy)}
theorem JF {α:Type}(l:List α)(nd:l.Nodup)(code:α->Nat)(n:Nat)(inj:∀x∈l,∀y∈l,code x=code y->x=y)(h:∀x∈l,code x<n):l.length<=n:=by
 have:=IF n (l.map code) (Is code l nd inj) (by intro c hc;obtain⟨x,hx,rfl⟩:=List.mem_map.1 hc;exact h x hx)
 rwa[Sa]at this
section
variable {nf : Nat} {lo hi : Nat -> Int} {a b : List Dn} {A B : Nat -> (Nat -> Int) -> Bool}
theorem xB {m:List Dn}(hm:Made nf lo hi m)(hd:∀i,i<nf->lo i<=hi i)(n:Nat)(C:Nat->Nat->Prop)
  (hC:∀k,k<m.length->(m.getD k default).kids≠[]->∃z,z<n/\ C k z)
  (aaD:∀k k' z,k<m.length->k'<m.length->C k z->C k' z->∀c,ee nf lo hi c->xg m k c=xg m k' c):m.length<=n+2:=by
 have g:=hm.dh hd
 have hex:∀k,∃z,k<m.length->(((m.getD k default).kids≠[]->2<=z/\ z<n+2/\ C k (z-2))/\ ((m.getD k default).kids=[]->z=if(m.getD k default).leaf then 1 else 0)):=by{intro k;by_cases hk:k<m.length;{by_cases h:(m.getD k default).kids=[];{exact⟨_,fun _=>⟨fun h'=>absurd h h',fun _=>rfl⟩⟩};{obtain⟨z,h1,h2⟩:=hC k hk h;exact⟨z+2,fun _=>⟨fun _=>⟨ia,ia,by simpa using h2⟩,fun h'=>absurd h' h⟩⟩}};{exact⟨0,fun h=>absurd h hk⟩}}
 have hcode:∃code:Nat->Nat,∀k,k<m.length->(((m.getD k default).kids≠[]->2<=code k/\ code k<n+2/\ C k (code k-2))/\ ((m.getD k default).kids=[]->code k=if(m.getD k default).leaf then 1 else 0)):=
  ⟨fun k=>Classical.choose (hex k),fun k=>Classical.choose_spec (hex k)⟩
 obtain⟨code,hcode⟩:=hcode;have:=JF (List.range m.length) List.nodup_range code (n+2) ?_ ?_
 {rwa[Pd]at this}
 {intro x hx y hy he;have hx:=List.mem_range.1 hx;have hy:=List.mem_range.1 hy;have cx:=hcode x hx;have cy:=hcode y hy;by_cases h1:(m.getD x default).kids=[];{have e1:=cx.2 h1;by_cases h2:(m.getD y default).kids=[];{have e2:=cy.2 h2;have p1:=(hm.table x hx).leaf h1;have p2:=(hm.table y hy).leaf h2;refine ar hm.nodup hx hy ?_;rw[e1,e2]at he;revert h1 h2 p1 p2 he;generalize m.getD x default=u;generalize m.getD y default=v;intro he h1 h2 p1 p2;(cases u;cases v);simp only at h1 h2 p1 p2 he;obtain⟨p1,p1'⟩:=p1;obtain⟨p2,p2'⟩:=p2;subst h1 h2 p1 p1' p2 p2';rename_i l1 l2;cases l1<;>cases l2<;>simp_all};{have e2:=cy.1 h2;split at e1<;>omega}};{have e1:=cx.1 h1;by_cases h2:(m.getD y default).kids=[];{have e2:=cy.2 h2;split at e2<;>omega};{have e2:=cy.1 h2;rw[he]at e1;exact g.one hx hy (aaD x y _ hx hy e1.2.2 e2.2.2)}}}
 {intro x hx;have hx:=List.mem_range.1 hx;have cx:=hcode x hx;by_cases h1:(m.getD x default).kids=[];{have:=cx.2 h1;split at this<;>omega};{exact(cx.1 h1).2.1}}
theorem VA {R:Nat->Nat->Prop}{m:List Dn}{dn:pe}(h:Wx nf lo hi a b A B R m dn)(hd:∀i,i<nf->lo i<=hi i)(hR:∀x y,R x y->x<a.length/\ y<b.length):m.length<=a.length*b.length+2:=by
 refine xB h.made hd _ (fun k z=>∃x y,x<a.length/\ y<b.length/\ z=x*b.length+y/\ ∀c,ee nf lo hi c->xg m k c=(A x c&& B y c)) ?_ ?_
 {intro k hk hkk;obtain⟨x,y,h1,_,h3⟩:=h.from_ k hk hkk;have h4:=hR x y h1;refine⟨x*b.length+y,?_,x,y,h4.1,h4.2,rfl,h3⟩;have:(x+1)*b.length<=a.length*b.length:=ye _ h4.1;rw[Ee]at this;omega}
 {rintro k k' z hk hk' ⟨x,y,h1,h2,h3,h4⟩ ⟨x',y',h1',P8,h3',Q8⟩ c fc;have hx:x=x':=by{have e:x*b.length+y=x'*b.length+y':=h3.symm.trans h3';(rcases Ue x x' with h | h | h);{have:(x+1)*b.length<=x'*b.length:=ye _ h;rw[Ee]at this;omega};{exact h};{have:(x'+1)*b.length<=x*b.length:=ye _ h;rw[Ee]at this;omega}};subst hx;(have hy:y=y':=ia);subst hy;rw[h4 c fc,Q8 c fc]}
end
section
variable {nf : Nat} {lo hi : Nat -> Int} {t : List Dn}
def Wn (t:List Dn):Nat->Nat->(Nat->Int)->Bool
 | 0,_,_=>false
 | f+1,k,c=>if(t.getD k default).kids=[]then(t.getD k default).leaf else Wn t f (wg (t.getD k default) (c (t.getD k default).fact.toNat)).toNat c
theorem vI (hT:Lg nf lo hi t)(c:Nat->Int):∀(f g k:Nat),k<t.length->nf-Fb nf (t.getD k default)<f->nf-Fb nf (t.getD k default)<g->Wn t f k c=Wn t g k c:=by
 intro f
 induction f with| zero=>intro g k _ h;omega| succ f ih=>{intro g k hk hf hg;obtain⟨g,rfl⟩:∃g',g=g'+1:=⟨g-1,ia⟩;unfold Wn;by_cases h:(t.getD k default).kids=[];{rw[if_pos h,if_pos h]};{rw[Aa h,Aa h];have hm:=((hT k hk).inner h).2.2.2.2.2.2.2 _ (Oi (hT k hk) h (c (t.getD k default).fact.toNat));have h1:(t.getD k default).fact.toNat<Fb nf (t.getD (wg (t.getD k default) (c (t.getD k default).fact.toNat)).toNat default):=hm.2.2;(have h2:Fb nf (t.getD k default)=(t.getD k default).fact.toNat:=by unfold Fb;rw[Aa h]);have h3:=ig hT hm.2.1;exact ih g _ hm.2.1 ia ia}}
theorem KF (hT:Lg nf lo hi t):Zq nf lo hi t (Wn t (nf+1)):=by
 intro k hk c _;rw[vI hT c (nf+1) (nf+2) k hk ia ia]
 conv=>lhs;unfold Wn
theorem uy (hT:Lg nf lo hi t)(nd:t.Nodup)(hd:∀i,i<nf->lo i<=hi i):Te nf lo hi t (Wn t (nf+1)):=⟨hT,KF hT,nd,hd⟩
end
end Go.Proofs.YtejbgoigkefnfaaGreatDoor
