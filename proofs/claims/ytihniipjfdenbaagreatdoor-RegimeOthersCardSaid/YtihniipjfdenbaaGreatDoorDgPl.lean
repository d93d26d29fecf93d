/- Plain core of chapter 11: any table of proper nodes without doubles is good: its reading, with fuel. No program. -/
import Derived.BigQuiet
namespace Go.Proofs.YtihniipjfdenbaaGreatDoor
section
structure Dn where
 fact:Int
 cuts:List Int
 kids:List Int
 leaf:Bool
deriving DecidableEq
instance : Inhabited Dn := ⟨⟨0, [], [], false⟩⟩
theorem getD_dg {α:Type}(l:List α)(i:Nat)(d:α)(h:i<l.length):l.getD i d=l[i]:=by
 rw[List.getD_eq_getElem?_getD,List.getElem?_eq_getElem h]
 rfl
def nextI (cuts:List Int)(v:Int):Nat:=cuts.findIdx fun c=>decide (v<c)
def kidAt (n:Dn)(v:Int):Int:=n.kids.getD (nextI n.cuts v) 0
def chainI (hi:Int):Int->List Int->Prop
 | _,[]=>True
 | lo,c::l=>lo<c/\ c<=hi/\ chainI hi c l
def adjI {α:Type}:List α->Prop
 | a::b::l=>a≠b/\ adjI (b::l)
 | _=>True
theorem nextI_nil (v:Int):nextI [] v=0:=rfl
theorem nextI_lt {c v:Int}{l:List Int}(h:v<c):nextI (c::l) v=0:=by simp[nextI,List.findIdx_cons,h]
theorem nextI_ge {c v:Int}{l:List Int}(h:c<=v):nextI (c::l) v=nextI l v+1:=by
 have:¬v<c:=by omega
 simp[nextI,List.findIdx_cons,this]
theorem nextI_lo {hi lo:Int}:∀ {l:List Int},chainI hi lo l->nextI l lo=0
 | [],_=>rfl
 | _::_,h=>nextI_lt h.1
theorem nextI_le (l:List Int)(v:Int):nextI l v<=l.length:=List.findIdx_le_length
theorem step_canon {α:Type}(z:α){hi:Int}:∀(l l':List Int) (lo:Int) (k k':List α),lo<=hi->chainI hi lo l->chainI hi lo l'->k.length=l.length+1->k'.length=l'.length+1->adjI k->adjI k'->
  (∀v,lo<=v->v<=hi->k.getD (nextI l v) z=k'.getD (nextI l' v) z)->l=l'/\ k=k'
 | l,l',lo,k,k',hlo,hl,hl',hk,hk',ha,ha',h=>by
  obtain⟨a,k,rfl⟩:∃a m,k=a::m:=by cases k with | nil=>simp at hk | cons a m=>exact⟨a,m,rfl⟩
  obtain⟨a',k',rfl⟩:∃a m,k'=a::m:=by cases k' with | nil=>simp at hk' | cons a m=>exact⟨a,m,rfl⟩
  have h0:=h lo (Int.le_refl _) hlo;rw[nextI_lo hl,nextI_lo hl']at h0;simp only[List.getD_cons_zero]at h0;subst h0;cases l with
  | nil=>{(have:k=[]:=by simpa using hk);subst this;cases l' with| nil=>{(have:k'=[]:=by simpa using hk');subst this;exact⟨rfl,rfl⟩}| cons c' l'=>{exfalso;(obtain⟨b',k',rfl⟩:∃b m,k'=b::m:=by cases k' with | nil=>simp at hk' | cons a m=>exact⟨a,m,rfl⟩);have h1:=h c' (by have:=hl'.1;omega) hl'.2.1;rw[nextI_nil,nextI_ge (Int.le_refl _),nextI_lo hl'.2.2]at h1;exact ha'.1 (by simpa using h1)}}
  | cons c l=>
   obtain⟨b,k,rfl⟩:∃b m,k=b::m:=by cases k with | nil=>simp at hk | cons a m=>exact⟨a,m,rfl⟩
   have hc:=hl.1;have hch:=hl.2.1;have hcl:=hl.2.2;cases l' with
   | nil=>{exfalso;have h1:=h c (by omega) hch;rw[nextI_nil,nextI_ge (Int.le_refl _),nextI_lo hcl]at h1;exact ha.1 (by simpa using h1.symm)}
   | cons c' l'=>
    obtain⟨b',k',rfl⟩:∃b m,k'=b::m:=by cases k' with | nil=>simp at hk' | cons a m=>exact⟨a,m,rfl⟩
    have hc':=hl'.1;have hch':=hl'.2.1;have hcl':=hl'.2.2;rcases Int.lt_trichotomy c c' with hlt | heq | hgt
    {exfalso;have h1:=h c (by omega) hch;rw[nextI_lt hlt,nextI_ge (Int.le_refl _),nextI_lo hcl]at h1;exact ha.1 (by simpa using h1.symm)}
    ·subst heq
     have ih:=step_canon z l l' c (b::k) (b'::k') hch hcl hcl' (by simpa using hk) (by simpa using hk') ha.2 ha'.2 (by
      intro v h1 h2
      have h3:=h v (by omega) h2
      rw[nextI_ge h1,nextI_ge h1]at h3
      simpa using h3)
     exact⟨by rw[ih.1],by rw[ih.2]⟩
    {exfalso;have h1:=h c' (by omega) hch';rw[nextI_lt hgt,nextI_ge (Int.le_refl _),nextI_lo hcl']at h1;exact ha'.1 (by simpa using h1)}
termination_by l => l.length
def rankD (nf:Nat)(n:Dn):Nat:=if n.kids=[]then nf else n.fact.toNat
structure ProperD (nf : Nat) (lo hi : Nat -> Int) (len : Nat) (rk : Nat -> Nat) (n : Dn) : Prop where
 leaf:n.kids=[]->n.fact=0/\ n.cuts=[]
 inner:n.kids≠[]->n.leaf=false/\ 0<=n.fact/\ n.fact.toNat<nf/\ n.cuts≠[]/\ n.kids.length=n.cuts.length+1/\ chainI (hi n.fact.toNat) (lo n.fact.toNat) n.cuts/\ adjI n.kids/\
  ∀k∈n.kids,0<=k/\ k.toNat<len/\ n.fact.toNat<rk k.toNat
def fitsC (nf:Nat)(lo hi:Nat->Int)(c:Nat->Int):Prop:=∀i,i<nf->lo i<=c i/\ c i<=hi i
def updC (c:Nat->Int)(i:Nat)(v:Int):Nat->Int:=fun j=>if j=i then v else c j
def TableD (nf:Nat)(lo hi:Nat->Int)(t:List Dn):Prop:=∀k,k<t.length->ProperD nf lo hi t.length (fun j=>rankD nf (t.getD j default)) (t.getD k default)
def ReadsD (nf:Nat)(lo hi:Nat->Int)(t:List Dn)(M:Nat->(Nat->Int)->Bool):Prop:=
 ∀k,k<t.length->∀c,fitsC nf lo hi c->M k c=if(t.getD k default).kids=[]then(t.getD k default).leaf else M (kidAt (t.getD k default) (c (t.getD k default).fact.toNat)).toNat c
variable {nf : Nat} {lo hi : Nat -> Int} {t : List Dn} {M : Nat -> (Nat -> Int) -> Bool}
theorem kidAt_mem {len:Nat}{rk:Nat->Nat}{n:Dn}(hp:ProperD nf lo hi len rk n)(h:n.kids≠[])(v:Int):kidAt n v∈n.kids:=by
 have h1:=(hp.inner h).2.2.2.2.1;have h2:=nextI_le n.cuts v;unfold kidAt;rw[getD_dg _ _ _ (by omega)];exact List.getElem_mem _
theorem rank_le_nf (hT:TableD nf lo hi t){k:Nat}(hk:k<t.length):rankD nf (t.getD k default)<=nf:=by
 unfold rankD
 split
 {exact Nat.le_refl _}
 {next h=>exact Nat.le_of_lt ((hT k hk).inner h).2.2.1}
theorem indepD (hT:TableD nf lo hi t)(hM:ReadsD nf lo hi t M):∀(N k:Nat),k<t.length->nf-rankD nf (t.getD k default)<=N->∀c c',fitsC nf lo hi c->fitsC nf lo hi c'->
  (∀j,rankD nf (t.getD k default)<=j->j<nf->c j=c' j)->M k c=M k c':=by
 intro N
 induction N with| zero=>{intro k hk hN c c' fc fc' hj;rw[hM k hk c fc,hM k hk c' fc'];by_cases h:(t.getD k default).kids=[];{rw[if_pos h,if_pos h]};{have h1:=((hT k hk).inner h).2.2.1;unfold rankD at hN;rw[if_neg h]at hN;omega}}| succ N ih=>{intro k hk hN c c' fc fc' hj;rw[hM k hk c fc,hM k hk c' fc'];by_cases h:(t.getD k default).kids=[];{rw[if_pos h,if_pos h]};{rw[if_neg h,if_neg h];have hin:=(hT k hk).inner h;(have hr:rankD nf (t.getD k default)=(t.getD k default).fact.toNat:=by unfold rankD;rw[if_neg h]);rw[hr]at hN hj;rw[hj _ (Nat.le_refl _) hin.2.2.1];have hm:=hin.2.2.2.2.2.2.2 _ (kidAt_mem (hT k hk) h (c' (t.getD k default).fact.toNat));have hlt:(t.getD k default).fact.toNat<rankD nf (t.getD (kidAt (t.getD k default) (c' (t.getD k default).fact.toNat)).toNat default):=hm.2.2;exact ih _ hm.2.1 (by omega) c c' fc fc' fun j h1 h2=>hj j (by omega) h2}}
theorem fits_upd {c:Nat->Int}(fc:fitsC nf lo hi c){i:Nat}{v:Int}(h1:lo i<=v)(h2:v<=hi i):fitsC nf lo hi (updC c i v):=by
 intro j hj;unfold updC;by_cases h:j=i
 {subst h;rw[if_pos rfl];exact⟨h1,h2⟩}
 {rw[if_neg h];exact fc j hj}
theorem kid_means (hT:TableD nf lo hi t)(hM:ReadsD nf lo hi t M){k:Nat}(hk:k<t.length)(h:(t.getD k default).kids≠[]){v:Int}
  (h1:lo (t.getD k default).fact.toNat<=v) (h2:v<=hi (t.getD k default).fact.toNat) {c:Nat->Int} (fc:fitsC nf lo hi c):
  M (kidAt (t.getD k default) v).toNat c=M k (updC c (t.getD k default).fact.toNat v):=by
 have fu:=fits_upd fc h1 h2;have hm:=((hT k hk).inner h).2.2.2.2.2.2.2 _ (kidAt_mem (hT k hk) h v);have hlt:(t.getD k default).fact.toNat<rankD nf (t.getD (kidAt (t.getD k default) v).toNat default):=hm.2.2;rw[hM k hk _ fu,if_neg h];have hu:updC c (t.getD k default).fact.toNat v (t.getD k default).fact.toNat=v:=by unfold updC;rw[if_pos rfl]
 rw[hu];refine indepD hT hM _ _ hm.2.1 (Nat.le_refl _) _ _ fc fu ?_;intro j h3 h4;unfold updC;rw[if_neg (by omega)]
theorem upd_before (hT:TableD nf lo hi t)(hM:ReadsD nf lo hi t M){k:Nat}(hk:k<t.length){i:Nat}(hi':i<rankD nf (t.getD k default)){v:Int}
  (h1:lo i<=v) (h2:v<=hi i) {c:Nat->Int} (fc:fitsC nf lo hi c):M k (updC c i v)=M k c:=by
 refine indepD hT hM _ _ hk (Nat.le_refl _) _ _ (fits_upd fc h1 h2) fc ?_;intro j h3 h4;unfold updC;rw[if_neg (by omega)]
theorem node_inj {t:List Dn}(nd:t.Nodup){x y:Nat}(hx:x<t.length)(hy:y<t.length)(h:t.getD x default=t.getD y default):x=y:=by
 rw[getD_dg _ _ _ hx,getD_dg _ _ _ hy]at h;have hp:=List.pairwise_iff_getElem.1 nd;rcases Nat.lt_trichotomy x y with hl | hl | hl
 {exact absurd h (hp x y hx hy hl)}
 {exact hl}
 {exact absurd h.symm (hp y x hy hx hl)}
theorem canon_side (hT:TableD nf lo hi t)(hM:ReadsD nf lo hi t M)(hd:∀i,i<nf->lo i<=hi i){N x y:Nat}
  (ih:∀x' y',x'<t.length->y'<t.length->(nf-rankD nf (t.getD x' default))+(nf-rankD nf (t.getD y' default))<N->(∀c,fitsC nf lo hi c->M x' c=M y' c)->x'=y')
  (hx:x<t.length) (hy:y<t.length) (hN:(nf-rankD nf (t.getD x default))+(nf-rankD nf (t.getD y default))<=N) (h:∀c,fitsC nf lo hi c->M x c=M y c)
  (hr:rankD nf (t.getD x default)<rankD nf (t.getD y default)):False:=by
 have hy':=rank_le_nf hT hy
 have hkx:(t.getD x default).kids≠[]:=by{intro he;(have:rankD nf (t.getD x default)=nf:=by unfold rankD;rw[if_pos he]);omega}
 have hrx:rankD nf (t.getD x default)=(t.getD x default).fact.toNat:=by unfold rankD;rw[if_neg hkx]
 have hin:=(hT x hx).inner hkx;have hlh:=hd _ hin.2.2.1
 have key:∀v,lo (t.getD x default).fact.toNat<=v->v<=hi (t.getD x default).fact.toNat->kidAt (t.getD x default) v=(y:Int):=by
  intro v h1 h2;have hm:=hin.2.2.2.2.2.2.2 _ (kidAt_mem (hT x hx) hkx v);have hlt:(t.getD x default).fact.toNat<rankD nf (t.getD (kidAt (t.getD x default) v).toNat default):=hm.2.2;have:=rank_le_nf hT hm.2.1
  have h3:=ih _ y hm.2.1 hy (by omega) (by
   intro c fc
   rw[kid_means hT hM hx hkx h1 h2 fc,h _ (fits_upd fc h1 h2)]
   exact upd_before hT hM hy (by omega) h1 h2 fc)
  have:=hm.1;omega
 have:=step_canon 0 (t.getD x default).cuts [] _ (t.getD x default).kids [(y:Int)] hlh hin.2.2.2.2.2.1 trivial hin.2.2.2.2.1 rfl hin.2.2.2.2.2.2.1 trivial (by
  intro v h1 h2
  exact key v h1 h2)
 exact hin.2.2.2.1 this.1
theorem canonD (hT:TableD nf lo hi t)(hM:ReadsD nf lo hi t M)(nd:t.Nodup)(hd:∀i,i<nf->lo i<=hi i):∀(N x y:Nat),x<t.length->y<t.length->
  (nf-rankD nf (t.getD x default))+(nf-rankD nf (t.getD y default))<N->(∀c,fitsC nf lo hi c->M x c=M y c)->x=y:=by
 intro N
 induction N with
 | zero=>intro x y _ _ h;omega
 | succ N ih=>
  intro x y hx hy hN h;rcases Nat.lt_trichotomy (rankD nf (t.getD x default)) (rankD nf (t.getD y default))with hr | hr | hr
  {exact(canon_side hT hM hd (N:=N) (fun x' y' a b e g=>ih x' y' a b e g) hx hy (by omega) h hr).elim}
  ·by_cases hkx:(t.getD x default).kids=[]
   {by_cases hky:(t.getD y default).kids=[];{(have hlo:fitsC nf lo hi lo:=fun i hi'=>⟨Int.le_refl _,hd i hi'⟩);have h1:=h lo hlo;rw[hM x hx _ hlo,hM y hy _ hlo,if_pos hkx,if_pos hky]at h1;have hpx:=(hT x hx).leaf hkx;have hpy:=(hT y hy).leaf hky;refine node_inj nd hx hy ?_;revert h1 hkx hky hpx hpy;generalize t.getD x default=n;generalize t.getD y default=m;intro h1 h2 h3 h4 h5;(cases n;cases m);simp_all};{exfalso;have:=((hT y hy).inner hky).2.2.1;unfold rankD at hr;rw[if_pos hkx,if_neg hky]at hr;omega}}
   ·by_cases hky:(t.getD y default).kids=[]
    {exfalso;have:=((hT x hx).inner hkx).2.2.1;unfold rankD at hr;rw[if_neg hkx,if_pos hky]at hr;omega}
    ·have hix:=(hT x hx).inner hkx
     have hiy:=(hT y hy).inner hky
     have hf:(t.getD x default).fact.toNat=(t.getD y default).fact.toNat:=by{unfold rankD at hr;rwa[if_neg hkx,if_neg hky]at hr}
     have hfe:(t.getD x default).fact=(t.getD y default).fact:=by have:=hix.2.1;have:=hiy.2.1;omega
     have hrx:rankD nf (t.getD x default)=(t.getD x default).fact.toNat:=by unfold rankD;rw[if_neg hkx]
     have hlh:=hd _ hix.2.2.1
     have key:∀v,lo (t.getD x default).fact.toNat<=v->v<=hi (t.getD x default).fact.toNat->kidAt (t.getD x default) v=kidAt (t.getD y default) v:=by
      intro v h1 h2;have hm:=hix.2.2.2.2.2.2.2 _ (kidAt_mem (hT x hx) hkx v);have hn:=hiy.2.2.2.2.2.2.2 _ (kidAt_mem (hT y hy) hky v);have hlm:(t.getD x default).fact.toNat<rankD nf (t.getD (kidAt (t.getD x default) v).toNat default):=hm.2.2;have hln:(t.getD y default).fact.toNat<rankD nf (t.getD (kidAt (t.getD y default) v).toNat default):=hn.2.2
      have h3:=ih _ _ hm.2.1 hn.2.1 (by omega) (by
       intro c fc
       rw[kid_means hT hM hx hkx h1 h2 fc,kid_means hT hM hy hky (by rw[<-hf];exact h1) (by rw[<-hf];exact h2) fc,h _ (fits_upd fc h1 h2),hf])
      have:=hm.1;have:=hn.1;omega
     have hs:=step_canon 0 (t.getD x default).cuts (t.getD y default).cuts _ (t.getD x default).kids (t.getD y default).kids hlh hix.2.2.2.2.2.1 (by rw[hf];exact hiy.2.2.2.2.2.1) hix.2.2.2.2.1 hiy.2.2.2.2.1 hix.2.2.2.2.2.2.1 hiy.2.2.2.2.2.2.1 (by
      intro v h1 h2
      exact key v h1 h2)
     refine node_inj nd hx hy ?_;have hl:=hix.1.trans hiy.1.symm;revert hs hl hfe;generalize t.getD x default=n;generalize t.getD y default=m;intro h1 h2 h3;cases n;cases m
     simp_all
  {exact(canon_side hT hM hd (N:=N) (fun x' y' a b e g=>ih x' y' a b e g) hy hx (by omega) (fun c fc=>(h c fc).symm) hr).elim}
end
section
variable {nf : Nat} {lo hi : Nat -> Int}
def meanD (nf:Nat)(lo hi:Nat->Int)(M:Nat->(Nat->Int)->Bool)(k:Nat):{c:Nat->Int // fitsC nf lo hi c}->Bool:=fun c=>M k c.1
theorem mean_iff {M M':Nat->(Nat->Int)->Bool}{x y:Nat}:meanD nf lo hi M x=meanD nf lo hi M' y↔∀c,fitsC nf lo hi c->M x c=M' y c:=
 ⟨fun h c fc=>congrFun h ⟨c,fc⟩,fun h=>funext fun c=>h c.1 c.2⟩
structure GoodT (nf : Nat) (lo hi : Nat -> Int) (t : List Dn) (M : Nat -> (Nat -> Int) -> Bool) : Prop where
 table:TableD nf lo hi t
 reads:ReadsD nf lo hi t M
 nodup:t.Nodup
 dom:∀i,i<nf->lo i<=hi i
theorem GoodT.one {t:List Dn}{M:Nat->(Nat->Int)->Bool}(g:GoodT nf lo hi t M){x y:Nat}(hx:x<t.length)(hy:y<t.length)(h:∀c,fitsC nf lo hi c->M x c=M y c):x=y:=
 canonD g.table g.reads g.nodup g.dom _ x y hx hy (Nat.lt_succ_self _) h
theorem adj_mean {t:List Dn}{M:Nat->(Nat->Int)->Bool}(g:GoodT nf lo hi t M):∀(l:List Int),(∀k∈l,0<=k/\ k.toNat<t.length)->adjI l->adjI (l.map fun k=>meanD nf lo hi M k.toNat)
 | [],_,_=>trivial
 | [_],_,_=>trivial
 | a::b::l,h,ha=>by{have h1:=h a (List.mem_cons_self ..);have h2:=h b (List.mem_cons_of_mem _ (List.mem_cons_self ..));refine⟨?_,adj_mean g (b::l) (fun k hk=>h k (List.mem_cons_of_mem _ hk)) ha.2⟩;intro he;have:=g.one h1.2 h2.2 (mean_iff.1 he);exact ha.1 (by omega)}
theorem getD_map_dg {α β:Type}(f:α->β)(l:List α)(i:Nat)(z:α):(l.map f).getD i (f z)=f (l.getD i z):=by
 rw[List.getD_eq_getElem?_getD,List.getD_eq_getElem?_getD,List.getElem?_map];cases l[i]? <;>rfl
theorem getD_map_lt {α β:Type}(f:α->β)(l:List α)(i:Nat)(z:β)(a:α)(h:i<l.length):(l.map f).getD i z=f (l.getD i a):=by
 rw[getD_dg _ _ _ (by rw[List.length_map];exact h),getD_dg _ _ _ h,List.getElem_map]
theorem cross_side {t t':List Dn}{M M':Nat->(Nat->Int)->Bool}(g:GoodT nf lo hi t M)(g':GoodT nf lo hi t' M'){x y:Nat}(hx:x<t.length)(hy:y<t'.length)(h:∀c,fitsC nf lo hi c->M x c=M' y c)
  (hr:rankD nf (t.getD x default)<rankD nf (t'.getD y default)):False:=by
 have hy':=rank_le_nf g'.table hy
 have hkx:(t.getD x default).kids≠[]:=by{intro he;(have:rankD nf (t.getD x default)=nf:=by unfold rankD;rw[if_pos he]);omega}
 have hrx:rankD nf (t.getD x default)=(t.getD x default).fact.toNat:=by unfold rankD;rw[if_neg hkx]
 have hin:=(g.table x hx).inner hkx;have hlh:=g.dom _ hin.2.2.1;have hk:=fun k hk=>hin.2.2.2.2.2.2.2 k hk
 have:=step_canon (meanD nf lo hi M (0:Int).toNat) (t.getD x default).cuts [] _ ((t.getD x default).kids.map fun k=>meanD nf lo hi M k.toNat) [meanD nf lo hi M' y] hlh hin.2.2.2.2.2.1 trivial (by rw[List.length_map];exact hin.2.2.2.2.1) rfl
  (adj_mean g _ (fun k h=>⟨(hk k h).1,(hk k h).2.1⟩) hin.2.2.2.2.2.2.1) trivial (by
  intro v h1 h2
  rw[getD_map_dg (fun k:Int=>meanD nf lo hi M k.toNat)]
  show meanD nf lo hi M (kidAt (t.getD x default) v).toNat=meanD nf lo hi M' y
  refine mean_iff.2 fun c fc=>?_
  rw[kid_means g.table g.reads hx hkx h1 h2 fc,h _ (fits_upd fc h1 h2)]
  exact upd_before g'.table g'.reads hy (by omega) h1 h2 fc)
 exact hin.2.2.2.1 this.1
theorem cross {t t':List Dn}{M M':Nat->(Nat->Int)->Bool}(g:GoodT nf lo hi t M)(g':GoodT nf lo hi t' M'){x y:Nat}(hx:x<t.length)(hy:y<t'.length)(h:∀c,fitsC nf lo hi c->M x c=M' y c):
  (t.getD x default).fact=(t'.getD y default).fact/\ (t.getD x default).cuts=(t'.getD y default).cuts/\ (t.getD x default).leaf=(t'.getD y default).leaf/\
  ((t.getD x default).kids.map fun k=>meanD nf lo hi M k.toNat)=((t'.getD y default).kids.map fun k=>meanD nf lo hi M' k.toNat):=by
 have hr:rankD nf (t.getD x default)=rankD nf (t'.getD y default):=by{(rcases Nat.lt_trichotomy (rankD nf (t.getD x default)) (rankD nf (t'.getD y default))with hr | hr | hr);{exact(cross_side g g' hx hy h hr).elim};{exact hr};{exact(cross_side g' g hy hx (fun c fc=>(h c fc).symm) hr).elim}}
 by_cases hkx:(t.getD x default).kids=[]
 {by_cases hky:(t'.getD y default).kids=[];{(have hlo:fitsC nf lo hi lo:=fun i hi'=>⟨Int.le_refl _,g.dom i hi'⟩);have h1:=h lo hlo;rw[g.reads x hx _ hlo,g'.reads y hy _ hlo,if_pos hkx,if_pos hky]at h1;have hpx:=(g.table x hx).leaf hkx;have hpy:=(g'.table y hy).leaf hky;rw[hkx,hky,hpx.1,hpx.2,hpy.1,hpy.2];exact⟨rfl,rfl,h1,rfl⟩};{exfalso;have:=((g'.table y hy).inner hky).2.2.1;unfold rankD at hr;rw[if_pos hkx,if_neg hky]at hr;omega}}
 ·by_cases hky:(t'.getD y default).kids=[]
  {exfalso;have:=((g.table x hx).inner hkx).2.2.1;unfold rankD at hr;rw[if_neg hkx,if_pos hky]at hr;omega}
  ·have hix:=(g.table x hx).inner hkx
   have hiy:=(g'.table y hy).inner hky
   have hf:(t.getD x default).fact.toNat=(t'.getD y default).fact.toNat:=by{unfold rankD at hr;rwa[if_neg hkx,if_neg hky]at hr}
   have hfe:(t.getD x default).fact=(t'.getD y default).fact:=by have:=hix.2.1;have:=hiy.2.1;omega
   have hlh:=g.dom _ hix.2.2.1;have kx:=fun k hk=>hix.2.2.2.2.2.2.2 k hk
   have ky:=fun k hk=>hiy.2.2.2.2.2.2.2 k hk
   let z:{c:Nat->Int // fitsC nf lo hi c}->Bool:=fun _=>false
   have hs:=step_canon z (t.getD x default).cuts (t'.getD y default).cuts _ ((t.getD x default).kids.map fun k=>meanD nf lo hi M k.toNat) ((t'.getD y default).kids.map fun k=>meanD nf lo hi M' k.toNat) hlh hix.2.2.2.2.2.1 (by rw[hf];exact hiy.2.2.2.2.2.1)
    (by rw[List.length_map];exact hix.2.2.2.2.1) (by rw[List.length_map];exact hiy.2.2.2.2.1) (adj_mean g _ (fun k h=>⟨(kx k h).1,(kx k h).2.1⟩) hix.2.2.2.2.2.2.1) (adj_mean g' _ (fun k h=>⟨(ky k h).1,(ky k h).2.1⟩) hiy.2.2.2.2.2.2.1) (by
    intro v h1 h2
    have l1:=nextI_le (t.getD x default).cuts v
    have l2:=nextI_le (t'.getD y default).cuts v
    have n1:=hix.2.2.2.2.1
    have n2:=hiy.2.2.2.2.1
    rw[getD_map_lt _ _ _ _ 0 (by omega),getD_map_lt _ _ _ _ 0 (by omega)]
    show meanD nf lo hi M (kidAt (t.getD x default) v).toNat=meanD nf lo hi M' (kidAt (t'.getD y default) v).toNat
    refine mean_iff.2 fun c fc=>?_
    rw[kid_means g.table g.reads hx hkx h1 h2 fc,kid_means g'.table g'.reads hy hky (by rw[<-hf];exact h1) (by rw[<-hf];exact h2) fc,h _ (fits_upd fc h1 h2),hf])
   exact⟨hfe,hs.1,hix.1.trans hiy.1.symm,hs.2⟩
def visitD (t:List Dn):Nat->List Nat->Nat->List Nat
 | 0,o,_=>o
 | f+1,o,i=>if i∈o then o else((t.getD i default).kids).foldl (fun o k=>visitD t f o k.toNat) (o++[i])
def fromD (t:List Dn)(o:List Nat):List Dn:=o.map fun k=>⟨(t.getD k default).fact,(t.getD k default).cuts,(t.getD k default).kids.map fun x=>((o.idxOf x.toNat:Nat):Int),(t.getD k default).leaf⟩
def stepsD (nf:Nat)(lo hi:Nat->Int)(t t':List Dn)(M M':Nat->(Nat->Int)->Bool)(o o':List Nat):Prop:=
 (∀x∈o,x<t.length)/\ (∀y∈o',y<t'.length)/\ o.map (meanD nf lo hi M)=o'.map (meanD nf lo hi M')
theorem idx_steps {t t':List Dn}{M M':Nat->(Nat->Int)->Bool}(g:GoodT nf lo hi t M)(g':GoodT nf lo hi t' M'){x y:Nat}(hx:x<t.length)(hy:y<t'.length)(h:meanD nf lo hi M x=meanD nf lo hi M' y):
  ∀ {o o':List Nat},stepsD nf lo hi t t' M M' o o'->o.idxOf x=o'.idxOf y/\ (x∈o↔y∈o')
 | [],[],_=>⟨rfl,by simp⟩
 | [],_::_,hs=>by simp[stepsD]at hs
 | _::_,[],hs=>by simp[stepsD]at hs
 | a::o,b::o',hs=>by{obtain⟨h1,h2,h3⟩:=hs;rw[List.map_cons,List.map_cons,List.cons.injEq]at h3;have ih:=idx_steps g g' hx hy h (o:=o) (o':=o') ⟨fun x hx=>h1 x (List.mem_cons_of_mem _ hx),fun y hy=>h2 y (List.mem_cons_of_mem _ hy),h3.2⟩;have ha:=h1 a (List.mem_cons_self ..);have hb:=h2 b (List.mem_cons_self ..);have he:a=x↔b=y:=by{constructor;{rintro rfl;exact g'.one hb hy (mean_iff.1 (h3.1.symm.trans h))};{rintro rfl;exact g.one ha hx (mean_iff.1 (h3.1.trans h.symm))}};refine⟨?_,?_⟩;{rw[List.idxOf_cons,List.idxOf_cons];by_cases hax:a=x;{have hby:=he.1 hax;simp[hax,hby]};{(have hby:¬b=y:=fun h=>hax (he.2 h));(have e1:(a==x)=false:=by simpa using hax);(have e2:(b==y)=false:=by simpa using hby);rw[e1,e2,ih.1]}};{rw[List.mem_cons,List.mem_cons,ih.2];constructor;{rintro(h | h);{exact Or.inl (he.1 h.symm).symm};{exact Or.inr h}};{rintro(h | h);{exact Or.inl (he.2 h.symm).symm};{exact Or.inr h}}}}
theorem visit_steps {t t':List Dn}{M M':Nat->(Nat->Int)->Bool}(g:GoodT nf lo hi t M)(g':GoodT nf lo hi t' M'):∀(f:Nat) (o o':List Nat) (x y:Nat),x<t.length->y<t'.length->meanD nf lo hi M x=meanD nf lo hi M' y->
  stepsD nf lo hi t t' M M' o o'->stepsD nf lo hi t t' M M' (visitD t f o x) (visitD t' f o' y):=by
 intro f
 induction f with| zero=>intro o o' x y _ _ _ hs;exact hs| succ f ih=>{intro o o' x y hx hy h hs;have hiS:=idx_steps g g' hx hy h hs;unfold visitD;by_cases hm:x∈o;{rw[if_pos hm,if_pos (hiS.2.1 hm)];exact hs};{rw[if_neg hm,if_neg (fun h=>hm (hiS.2.2 h))];have hc:=(cross g g' hx hy (mean_iff.1 h)).2.2.2;have hs':stepsD nf lo hi t t' M M' (o++[x]) (o'++[y]):=by{refine⟨?_,?_,?_⟩;{intro z hz;(rcases List.mem_append.1 hz with hz | hz);{exact hs.1 z hz};{rw[List.mem_singleton.1 hz];exact hx}};{intro z hz;(rcases List.mem_append.1 hz with hz | hz);{exact hs.2.1 z hz};{rw[List.mem_singleton.1 hz];exact hy}};{rw[List.map_append,List.map_append,hs.2.2];simp[h]}};(have hkx:∀k∈(t.getD x default).kids,k.toNat<t.length:=fun k hk=>(((g.table x hx).inner (List.ne_nil_of_mem hk)).2.2.2.2.2.2.2 k hk).2.1);(have hky:∀k∈(t'.getD y default).kids,k.toNat<t'.length:=fun k hk=>(((g'.table y hy).inner (List.ne_nil_of_mem hk)).2.2.2.2.2.2.2 k hk).2.1);revert hc hs' hkx hky;generalize(t.getD x default).kids=l;generalize(t'.getD y default).kids=l';generalize o++[x]=p;generalize o'++[y]=p';intro hc hs' hkx hky;induction l generalizing l' p p' with| nil=>{cases l' with| nil=>exact hs'| cons b l'=>simp at hc}| cons a l ihl=>{cases l' with| nil=>simp at hc| cons b l'=>{rw[List.map_cons,List.map_cons,List.cons.injEq]at hc;rw[List.foldl_cons,List.foldl_cons];exact ihl l' _ _ hc.2 (ih _ _ _ _ (hkx a (List.mem_cons_self ..)) (hky b (List.mem_cons_self ..)) hc.1 hs') (fun k hk=>hkx k (List.mem_cons_of_mem _ hk)) (fun k hk=>hky k (List.mem_cons_of_mem _ hk))}}}}
theorem from_steps {t t':List Dn}{M M':Nat->(Nat->Int)->Bool}(g:GoodT nf lo hi t M)(g':GoodT nf lo hi t' M'){o o':List Nat}(hs:stepsD nf lo hi t t' M M' o o'):fromD t o=fromD t' o':=by
 have hlen:o.length=o'.length:=by{have:=congrArg List.length hs.2.2;rwa[List.length_map,List.length_map]at this}
 unfold fromD;refine List.ext_getElem (by rw[List.length_map,List.length_map,hlen]) ?_;intro i h1 h2;rw[List.getElem_map,List.getElem_map];rw[List.length_map]at h1 h2;have hx:=hs.1 _ (List.getElem_mem h1);have hy:=hs.2.1 _ (List.getElem_mem h2)
 have hm:meanD nf lo hi M o[i]=meanD nf lo hi M' o'[i]:=by{have h3:(o.map (meanD nf lo hi M))[i]'(by rw[List.length_map];exact h1)=(o'.map (meanD nf lo hi M'))[i]'(by rw[List.length_map];exact h2):=by{congr 1;exact hs.2.2};rwa[List.getElem_map,List.getElem_map]at h3}
 have hc:=cross g g' hx hy (mean_iff.1 hm);have hkx:∀k∈(t.getD o[i] default).kids,k.toNat<t.length:=fun k hk=>(((g.table _ hx).inner (List.ne_nil_of_mem hk)).2.2.2.2.2.2.2 k hk).2.1
 have hky:∀k∈(t'.getD o'[i] default).kids,k.toNat<t'.length:=fun k hk=>(((g'.table _ hy).inner (List.ne_nil_of_mem hk)).2.2.2.2.2.2.2 k hk).2.1
 have hkids:((t.getD o[i] default).kids.map fun x=>((o.idxOf x.toNat:Nat):Int))=((t'.getD o'[i] default).kids.map fun x=>((o'.idxOf x.toNat:Nat):Int)):=by
  have hq:=hc.2.2.2;revert hq hkx hky;generalize(t.getD o[i] default).kids=l;generalize(t'.getD o'[i] default).kids=l';intro hkx hky hq
  induction l generalizing l' with
  | nil=>{cases l' with| nil=>rfl| cons b l'=>simp at hq}
  | cons a l ihl=>
   cases l' with
   | nil=>simp at hq
   | cons b l'=>
    rw[List.map_cons,List.map_cons,List.cons.injEq]at hq
    rw[List.map_cons,List.map_cons,(idx_steps g g' (hkx a (List.mem_cons_self ..)) (hky b (List.mem_cons_self ..)) hq.1 hs).1,
     ihl l' (fun k hk=>hkx k (List.mem_cons_of_mem _ hk)) (fun k hk=>hky k (List.mem_cons_of_mem _ hk)) hq.2]
 rw[hkids,hc.1,hc.2.1,hc.2.2.1]
theorem same_diagram {t t':List Dn}{M M':Nat->(Nat->Int)->Bool}(g:GoodT nf lo hi t M)(g':GoodT nf lo hi t' M'){x y:Nat}(hx:x<t.length)(hy:y<t'.length)(h:∀c,fitsC nf lo hi c->M x c=M' y c)(f:Nat):
  fromD t (visitD t f [] x)=fromD t' (visitD t' f [] y):=
 from_steps g g' (visit_steps g g' f [] [] x y hx hy (mean_iff.2 h) ⟨fun _ h=>by simp at h,fun _ h=>by simp at h,rfl⟩)
end
section
variable {nf : Nat} {lo hi : Nat -> Int}
def stepE (c:Nat->Int)(acc:List Bool)(n:Dn):List Bool:=acc++[if n.kids=[]then n.leaf else acc.getD (kidAt n (c n.fact.toNat)).toNat false]
def evT (t:List Dn)(c:Nat->Int):List Bool:=t.foldl (stepE c) []
def readT (t:List Dn)(k:Nat)(c:Nat->Int):Bool:=(evT t c).getD k false
theorem evT_snoc (t:List Dn)(n:Dn)(c:Nat->Int):evT (t++[n]) c=stepE c (evT t c) n:=by
 unfold evT;rw[List.foldl_append]
 rfl
theorem snoc_ind {P:List Dn->Prop}(h0:P [])(h1:∀t n,P t->P (t++[n]))(t:List Dn):P t:=by
 have:∀(u t:List Dn),P t->P (t++u):=by{intro u;induction u with| nil=>intro t h;rwa[List.append_nil]| cons a u ih=>{intro t h;have:=ih (t++[a]) (h1 t a h);rwa[List.append_assoc]at this}}
 exact this t [] h0
theorem evT_len (t:List Dn)(c:Nat->Int):(evT t c).length=t.length:=by
 induction t using snoc_ind with| h0=>rfl| h1 t n ih=>rw[evT_snoc,stepE,List.length_append,List.length_append,ih];rfl
theorem getD_snoc {α:Type}(l:List α)(a z:α){k:Nat}(h:k<l.length):(l++[a]).getD k z=l.getD k z:=by
 rw[getD_dg _ _ _ (by rw[List.length_append];omega),getD_dg _ _ _ h,List.getElem_append_left h]
theorem getD_snoc_last {α:Type}(l:List α)(a z:α):(l++[a]).getD l.length z=a:=by
 rw[getD_dg _ _ _ (by rw[List.length_append];simp)]
 simp
theorem readT_snoc (t:List Dn)(n:Dn)(c:Nat->Int){k:Nat}(h:k<t.length):readT (t++[n]) k c=readT t k c:=by
 unfold readT;rw[evT_snoc,stepE,getD_snoc _ _ _ (by rw[evT_len];exact h)]
theorem readT_append (t:List Dn)(c:Nat->Int){k:Nat}(h:k<t.length)(u:List Dn):readT (t++u) k c=readT t k c:=by
 induction u using snoc_ind with| h0=>rw[List.append_nil]| h1 u n ih=>rw[<-List.append_assoc,readT_snoc _ _ _ (by rw[List.length_append];omega),ih]
theorem readT_last (t:List Dn)(n:Dn)(c:Nat->Int):readT (t++[n]) t.length c=if n.kids=[]then n.leaf else readT t (kidAt n (c n.fact.toNat)).toNat c:=by
 unfold readT;rw[evT_snoc,stepE];have:=getD_snoc_last (evT t c) (if n.kids=[]then n.leaf else(evT t c).getD (kidAt n (c n.fact.toNat)).toNat false) false
 rwa[evT_len]at this
structure Made (nf : Nat) (lo hi : Nat -> Int) (t : List Dn) : Prop where
 table:TableD nf lo hi t
 early:∀k,k<t.length->∀x∈(t.getD k default).kids,x.toNat<k
 nodup:t.Nodup
theorem Made.nil :Made nf lo hi []:=⟨fun k h=>absurd h (Nat.not_lt_zero k),fun k h=>absurd h (Nat.not_lt_zero k),List.nodup_nil⟩
def OverD (nf:Nat)(lo hi:Nat->Int)(t:List Dn)(n:Dn):Prop:=ProperD nf lo hi t.length (fun j=>rankD nf (t.getD j default)) n
theorem over_snoc {t:List Dn}{n m:Dn}(h:OverD nf lo hi t n):OverD nf lo hi (t++[m]) n:=by
 refine⟨h.leaf,fun hk=>?_⟩;have hi:=h.inner hk;refine⟨hi.1,hi.2.1,hi.2.2.1,hi.2.2.2.1,hi.2.2.2.2.1,hi.2.2.2.2.2.1,hi.2.2.2.2.2.2.1,?_⟩;intro k hm;have h1:=hi.2.2.2.2.2.2.2 k hm;refine⟨h1.1,by rw[List.length_append];omega,?_⟩
 show _<rankD nf ((t++[m]).getD k.toNat default)
 rw[getD_snoc _ _ _ h1.2.1];exact h1.2.2
theorem Made.snoc {t:List Dn}(h:Made nf lo hi t){n:Dn}(ho:OverD nf lo hi t n)(hn:n∉t):Made nf lo hi (t++[n]):=by
 refine⟨?_,?_,?_⟩
 {intro k hk;rw[List.length_append]at hk;(rcases Nat.lt_or_ge k t.length with h1 | h1);{rw[getD_snoc _ _ _ h1];exact over_snoc (h.table k h1)};{(have:k=t.length:=by simp at hk;omega);subst this;rw[getD_snoc_last];exact over_snoc ho}}
 {intro k hk x hx;rw[List.length_append]at hk;(rcases Nat.lt_or_ge k t.length with h1 | h1);{rw[getD_snoc _ _ _ h1]at hx;exact h.early k h1 x hx};{(have:k=t.length:=by simp at hk;omega);subst this;rw[getD_snoc_last]at hx;exact((ho.inner (List.ne_nil_of_mem hx)).2.2.2.2.2.2.2 x hx).2.1}}
 {rw[List.nodup_append];refine⟨h.nodup,by simp,?_⟩;intro a ha b hb he;rw[List.mem_singleton]at hb;subst hb;subst he;exact hn ha}
theorem Made.reads {t:List Dn}(h:Made nf lo hi t):ReadsD nf lo hi t (readT t):=by
 intro k hk c _
 have he:t=t.take k++[t.getD k default]++t.drop (k+1):=by{rw[getD_dg _ _ _ hk,List.append_assoc,List.singleton_append,List.getElem_cons_drop,List.take_append_drop]}
 have hl:(t.take k).length=k:=by rw[List.length_take];omega
 have h1:readT t k c=readT (t.take k++[t.getD k default]) k c:=by{have:=readT_append (t.take k++[t.getD k default]) c (k:=k) (by rw[List.length_append,hl];simp) (t.drop (k+1));rwa[<-he]at this}
 have h2:=readT_last (t.take k) (t.getD k default) c;rw[hl]at h2;rw[h1,h2];by_cases hn:(t.getD k default).kids=[]
 {rw[if_pos hn,if_pos hn]}
 {rw[if_neg hn,if_neg hn];have hm:=h.early k hk _ (kidAt_mem (h.table k hk) hn (c (t.getD k default).fact.toNat));have h3:=readT_append (t.take k) c (k:=(kidAt (t.getD k default) (c (t.getD k default).fact.toNat)).toNat) (by rw[hl];exact hm) ([t.getD k default]++t.drop (k+1));rw[<-List.append_assoc, <-he]at h3;exact h3.symm}
theorem Made.good {t:List Dn}(h:Made nf lo hi t)(hd:∀i,i<nf->lo i<=hi i):GoodT nf lo hi t (readT t):=⟨h.table,h.reads,h.nodup,hd⟩
def addD (t:List Dn)(n:Dn):List Dn×Nat:=if n∈t then(t,t.idxOf n)else(t++[n],t.length)
theorem addD_made {t:List Dn}(h:Made nf lo hi t){n:Dn}(ho:OverD nf lo hi t n):Made nf lo hi (addD t n).1/\ (addD t n).2<(addD t n).1.length/\ (addD t n).1.getD (addD t n).2 default=n/\ ∃u,(addD t n).1=t++u:=by
 unfold addD;by_cases hn:n∈t
 {rw[if_pos hn];have h1:=List.idxOf_lt_length_of_mem hn;refine⟨h,h1,?_,[],by simp⟩;show t.getD (t.idxOf n) default=n;rw[getD_dg _ _ _ h1];exact List.getElem_idxOf h1}
 {rw[if_neg hn];exact⟨h.snoc ho hn,by show t.length<(t++[n]).length;simp,getD_snoc_last _ _ _,[n],rfl⟩}
def dedI :Int->List (Int×Int)->List Int×List Int
 | _,[]=>([],[])
 | a,(s,k)::l=>if k=a then dedI a l else(s::(dedI k l).1,k::(dedI k l).2)
theorem dedI_len :∀(l:List (Int×Int)) (a:Int),(dedI a l).2.length=(dedI a l).1.length
 | [],_=>rfl
 | (s,k)::l,a=>by{unfold dedI;(split);{exact dedI_len l a};{simp[dedI_len l k]}}
theorem dedI_adj :∀(l:List (Int×Int)) (a:Int),adjI (a::(dedI a l).2)
 | [],_=>trivial
 | (s,k)::l,a=>by{unfold dedI;(split);{exact dedI_adj l a};{next h=>exact⟨fun he=>h he.symm,dedI_adj l k⟩}}
theorem dedI_mem :∀(l:List (Int×Int)) (a x:Int),x∈(dedI a l).2->x∈l.map Prod.snd
 | [],_,_,h=>by simp[dedI]at h
 | (s,k)::l,a,x,h=>by{unfold dedI at h;(split at h);{exact List.mem_cons_of_mem _ (dedI_mem l a x h)};{(rcases List.mem_cons.1 h with h | h);{rw[h];exact List.mem_cons_self ..};{exact List.mem_cons_of_mem _ (dedI_mem l k x h)}}}
theorem chain_weak {hi':Int}:∀ {l:List Int} {a b:Int},a<=b->chainI hi' b l->chainI hi' a l
 | [],_,_,_,_=>trivial
 | _::_,_,_,h,hc=>⟨by have:=hc.1;omega,hc.2⟩
theorem dedI_chain {hi':Int}:∀(l:List (Int×Int)) (a b:Int),chainI hi' b (l.map Prod.fst)->chainI hi' b (dedI a l).1
 | [],_,_,_=>trivial
 | (s,k)::l,a,b,h=>by{unfold dedI;have h1:b<s:=h.1;(split);{exact dedI_chain l a b (chain_weak (Int.le_of_lt h1) h.2.2)};{exact⟨h.1,h.2.1,dedI_chain l k s h.2.2⟩}}
theorem nextI_low {hi':Int}:∀ {l:List Int} {b v:Int},chainI hi' b l->v<=b->nextI l v=0
 | [],_,_,_,_=>rfl
 | _::_,_,_,h,hv=>nextI_lt (by have:=h.1;omega)
theorem dedI_next {hi':Int}:∀(l:List (Int×Int)) (a b v:Int),chainI hi' b (l.map Prod.fst)->
  (a::(dedI a l).2).getD (nextI (dedI a l).1 v) 0=(a::l.map Prod.snd).getD (nextI (l.map Prod.fst) v) 0
 | [],_,_,_,_=>rfl
 | (s,k)::l,a,b,v,h=>by
  have hs:chainI hi' s (l.map Prod.fst):=h.2.2;have h1:b<s:=h.1;unfold dedI;by_cases hv:v<s
  ·rw[List.map_cons,List.map_cons]
   rw[nextI_lt hv]
   split
   ·next hk=>
    rw[nextI_low (dedI_chain l a s hs) (by omega)]
    rfl
   {rw[nextI_lt hv];rfl}
  ·have hv:s<=v:=by omega
   rw[List.map_cons,List.map_cons,nextI_ge hv,List.getD_cons_succ]
   split
   ·next hk=>
    subst hk;exact dedI_next l k s v hs
   {rw[nextI_ge hv,List.getD_cons_succ];exact dedI_next l k s v hs}
def innerD (t:List Dn)(i:Int)(starts kids:List Int):List Dn×Nat:=
 let r:=dedI (kids.getD 0 0) (starts.tail.zip kids.tail)
 if r.2=[]then(t,(kids.getD 0 0).toNat)else addD t ⟨i,r.1,kids.getD 0 0::r.2,false⟩
theorem innerD_made {t:List Dn}(h:Made nf lo hi t){i:Nat}(hi':i<nf)(s0 k0:Int)(ss ks:List Int)(hl:ks.length=ss.length)(hc:chainI (hi i) (lo i) ss)
  (hk:∀k∈k0::ks,0<=k/\ k.toNat<t.length/\ i<rankD nf (t.getD k.toNat default)):
  Made nf lo hi (innerD t i (s0::ss) (k0::ks)).1/\ (innerD t i (s0::ss) (k0::ks)).2<(innerD t i (s0::ss) (k0::ks)).1.length/\ (∃u,(innerD t i (s0::ss) (k0::ks)).1=t++u)/\
  i<=rankD nf ((innerD t i (s0::ss) (k0::ks)).1.getD (innerD t i (s0::ss) (k0::ks)).2 default)/\
  ∀c,fitsC nf lo hi c->readT (innerD t i (s0::ss) (k0::ks)).1 (innerD t i (s0::ss) (k0::ks)).2 c=readT t ((k0::ks).getD (nextI ss (c i)) 0).toNat c:=by
 have hz1:(ss.zip ks).map Prod.fst=ss:=List.map_fst_zip (by omega);have hz2:(ss.zip ks).map Prod.snd=ks:=List.map_snd_zip (by omega);have hch:chainI (hi i) (lo i) ((ss.zip ks).map Prod.fst):=by rw[hz1];exact hc
 have hnx:=fun v=>dedI_next (ss.zip ks) k0 (lo i) v hch
 rw[hz1,hz2]at hnx;have hdc:=dedI_chain (ss.zip ks) k0 (lo i) hch;have hda:=dedI_adj (ss.zip ks) k0;have hdl:=dedI_len (ss.zip ks) k0;have hdm:=dedI_mem (ss.zip ks) k0;rw[hz2]at hdm;unfold innerD;simp only[List.tail_cons,List.getD_cons_zero];revert hnx hdc hda hdl hdm;generalize dedI k0 (ss.zip ks)=r;intro hnx hdc hda hdl hdm;by_cases hr:r.2=[]
 {rw[if_pos hr];have h0:=hk k0 (List.mem_cons_self ..);refine⟨h,h0.2.1,⟨[],by simp⟩,Nat.le_of_lt h0.2.2,?_⟩;intro c _;(have h1:r.1=[]:=by rw[hr]at hdl;simpa using hdl.symm);have h2:=hnx (c i);rw[h1,hr]at h2;rw[<-h2];rfl}
 ·rw[if_neg hr]
  have hne:r.1≠[]:=by{intro he;rw[he]at hdl;exact hr (by simpa using hdl)}
  have ho:OverD nf lo hi t ⟨i,r.1,k0::r.2,false⟩:=by{refine⟨fun he=>by simp at he,fun _=>⟨rfl,Int.natCast_nonneg i,by simpa using hi',hne,by simp[hdl],by simpa using hdc,hda,?_⟩⟩;intro k hm;(rcases List.mem_cons.1 hm with hm | hm);{rw[hm];simpa using hk k0 (List.mem_cons_self ..)};{simpa using hk k (List.mem_cons_of_mem _ (hdm k hm))}}
  obtain⟨h1,h2,h3,u,h4⟩:=addD_made h ho;refine⟨h1,h2,⟨u,h4⟩,?_,?_⟩
  {rw[h3];show i<=rankD nf ⟨i,r.1,k0::r.2,false⟩;unfold rankD;simp}
  ·intro c fc
   rw[h1.reads _ h2 c fc,h3];simp only[List.cons_ne_nil,if_false]
   have he:kidAt ⟨i,r.1,k0::r.2,false⟩ (c (i:Int).toNat)=(k0::ks).getD (nextI ss (c i)) 0:=by
    show(k0::r.2).getD (nextI r.1 (c i)) 0=_
    exact hnx (c i)
   rw[he]
   have hmem:(k0::ks).getD (nextI ss (c i)) 0∈k0::ks:=by{have:=nextI_le ss (c i);rw[getD_dg _ _ _ (by rw[List.length_cons];omega)];exact List.getElem_mem _}
   rw[h4];exact readT_append t c (hk _ hmem).2.1 u
end
section
variable {nf : Nat} {lo hi : Nat -> Int} {t : List Dn} {M : Nat -> (Nat -> Int) -> Bool}
structure VisitOk (t : List Dn) (o o' : List Nat) : Prop where
 more:∃u,o'=o++u
 nodup:o'.Nodup
 inside:∀x∈o',x<t.length
 closed:∀y∈o',y∉o->∀k∈(t.getD y default).kids,k.toNat∈o'
theorem VisitOk.mem {o o':List Nat}(h:VisitOk t o o'){x:Nat}(hx:x∈o):x∈o':=by
 obtain⟨u,hu⟩:=h.more;rw[hu];exact List.mem_append_left _ hx
theorem VisitOk.refl {o:List Nat}(h1:o.Nodup)(h2:∀x∈o,x<t.length):VisitOk t o o:=⟨⟨[],by simp⟩,h1,h2,fun _ h h'=>absurd h h'⟩
theorem VisitOk.trans {o p q:List Nat}(h:VisitOk t o p)(h':VisitOk t p q):VisitOk t o q:=by
 obtain⟨u,hu⟩:=h.more;obtain⟨v,hv⟩:=h'.more;refine⟨⟨u++v,by rw[hv,hu,List.append_assoc]⟩,h'.nodup,h'.inside,?_⟩;intro y hy hn k hk;by_cases hp:y∈p
 {exact h'.mem (h.closed y hp hn k hk)}
 {exact h'.closed y hy hp k hk}
theorem visit_ok (hT:TableD nf lo hi t):∀(f:Nat) (o:List Nat) (x:Nat),x<t.length->nf-rankD nf (t.getD x default)<f->o.Nodup->(∀y∈o,y<t.length)->
  VisitOk t o (visitD t f o x)/\ x∈visitD t f o x:=by
 intro f
 induction f with
 | zero=>intro o x _ h;omega
 | succ f ih=>
  intro o x hx hf nd hin;unfold visitD;by_cases hm:x∈o
  {rw[if_pos hm];exact⟨VisitOk.refl nd hin,hm⟩}
  ·rw[if_neg hm]
   have nd':(o++[x]).Nodup:=by{rw[List.nodup_append];refine⟨nd,by simp,?_⟩;intro a ha b hb he;rw[List.mem_singleton]at hb;subst hb;subst he;exact hm ha}
   have hin':∀y∈o++[x],y<t.length:=by{intro y hy;(rcases List.mem_append.1 hy with hy | hy);{exact hin y hy};{rw[List.mem_singleton.1 hy];exact hx}}
   have hkids:∀k∈(t.getD x default).kids,k.toNat<t.length/\ nf-rankD nf (t.getD k.toNat default)<f:=by{intro k hk;have hne:=List.ne_nil_of_mem hk;have hi':=(hT x hx).inner hne;have h1:=hi'.2.2.2.2.2.2.2 k hk;have h2:(t.getD x default).fact.toNat<rankD nf (t.getD k.toNat default):=h1.2.2;(have h3:rankD nf (t.getD x default)=(t.getD x default).fact.toNat:=by unfold rankD;rw[if_neg hne]);have h4:=rank_le_nf hT h1.2.1;exact⟨h1.2.1,by omega⟩}
   have key:∀(l:List Int),(∀k∈l,k.toNat<t.length/\ nf-rankD nf (t.getD k.toNat default)<f)->∀p:List Nat,p.Nodup->(∀y∈p,y<t.length)->
     VisitOk t p (l.foldl (fun o k=>visitD t f o k.toNat) p)/\ ∀k∈l,k.toNat∈l.foldl (fun o k=>visitD t f o k.toNat) p:=by
    intro l
    induction l with| nil=>intro _ p h1 h2;exact⟨VisitOk.refl h1 h2,fun _ h=>by simp at h⟩| cons a l ihl=>{intro hl p h1 h2;have ha:=hl a (List.mem_cons_self ..);have hv:=ih p a.toNat ha.1 ha.2 h1 h2;have hr:=ihl (fun k hk=>hl k (List.mem_cons_of_mem _ hk)) _ hv.1.nodup hv.1.inside;rw[List.foldl_cons];refine⟨hv.1.trans hr.1,?_⟩;intro k hk;(rcases List.mem_cons.1 hk with hk | hk);{rw[hk];exact hr.1.mem hv.2};{exact hr.2 k hk}}
   have hk:=key _ hkids (o++[x]) nd' hin';obtain⟨u,hu⟩:=hk.1.more;refine⟨⟨⟨[x]++u,by rw[hu,List.append_assoc]⟩,hk.1.nodup,hk.1.inside,?_⟩,hk.1.mem (by simp)⟩;intro y hy hn k hk';by_cases hyx:y=x
   {subst hyx;exact hk.2 k hk'}
   {exact hk.1.closed y hy (by simp[hn,hyx]) k hk'}
structure OrderD (t : List Dn) (o : List Nat) : Prop where
 nodup:o.Nodup
 inside:∀x∈o,x<t.length
 closed:∀y∈o,∀k∈(t.getD y default).kids,k.toNat∈o
theorem visit_order (hT:TableD nf lo hi t){f x:Nat}(hx:x<t.length)(hf:nf<f):OrderD t (visitD t f [] x)/\ ∃u,visitD t f [] x=x::u:=by
 have h:=visit_ok hT f [] x hx (by omega) List.nodup_nil (fun _ h=>by simp at h);refine⟨⟨h.1.nodup,h.1.inside,fun y hy=>h.1.closed y hy (by simp)⟩,?_⟩;obtain⟨g,rfl⟩:∃g,f=g+1:=⟨f-1,by omega⟩;unfold visitD;rw[if_neg (by simp)]
 show ∃u,(t.getD x default).kids.foldl (fun o k=>visitD t g o k.toNat) [x]=x::u
 have pre:∀(f:Nat) (o:List Nat) (x:Nat),∃u,visitD t f o x=o++u:=by
  intro f
  induction f with
  | zero=>intro o x;exact⟨[],by simp[visitD]⟩
  | succ f ih=>
   intro o x;unfold visitD
   split
   {exact⟨[],by simp⟩}
   ·have key:∀(l:List Int) (p:List Nat),∃u,l.foldl (fun o k=>visitD t f o k.toNat) p=p++u:=by
     intro l
     induction l with| nil=>intro p;exact⟨[],by simp⟩| cons a l ihl=>{intro p;obtain⟨u,hu⟩:=ih p a.toNat;obtain⟨v,hv⟩:=ihl (visitD t f p a.toNat);exact⟨u++v,by rw[List.foldl_cons,hv,hu,List.append_assoc]⟩}
    obtain⟨u,hu⟩:=key (t.getD x default).kids (o++[x]);exact⟨[x]++u,by rw[hu,List.append_assoc]⟩
 have key:∀(l:List Int) (p:List Nat),∃u,l.foldl (fun o k=>visitD t g o k.toNat) p=p++u:=by{intro l;induction l with| nil=>intro p;exact⟨[],by simp⟩| cons a l ihl=>{intro p;obtain⟨u,hu⟩:=pre g p a.toNat;obtain⟨v,hv⟩:=ihl (visitD t g p a.toNat);exact⟨u++v,by rw[List.foldl_cons,hv,hu,List.append_assoc]⟩}}
 obtain⟨u,hu⟩:=key (t.getD x default).kids [x];exact⟨u,hu⟩
theorem fromD_len (t:List Dn)(o:List Nat):(fromD t o).length=o.length:=by unfold fromD;rw[List.length_map]
theorem fromD_get {o:List Nat}{k:Nat}(hk:k<o.length):
  (fromD t o).getD k default=⟨(t.getD o[k] default).fact,(t.getD o[k] default).cuts,(t.getD o[k] default).kids.map fun x=>((o.idxOf x.toNat:Nat):Int),(t.getD o[k] default).leaf⟩:=by
 rw[getD_dg _ _ _ (by rw[fromD_len];exact hk)];unfold fromD;rw[List.getElem_map]
theorem from_rank {o:List Nat}{x:Nat}(hx:x∈o):rankD nf ((fromD t o).getD (o.idxOf x) default)=rankD nf (t.getD x default):=by
 have h:=List.idxOf_lt_length_of_mem hx;rw[fromD_get h,List.getElem_idxOf h];unfold rankD
 simp
theorem idx_inj {o:List Nat}{x y:Nat}(hx:x∈o)(hy:y∈o)(h:o.idxOf x=o.idxOf y):x=y:=by
 have h1:=List.idxOf_lt_length_of_mem hx;have h2:=List.idxOf_lt_length_of_mem hy;have e1:=List.getElem_idxOf h1;have e2:=List.getElem_idxOf h2;rw[<-e1, <-e2];congr 1
theorem adj_map {f:Int->Int}:∀(l:List Int),(∀a∈l,∀b∈l,f a=f b->a=b)->adjI l->adjI (l.map f)
 | [],_,_=>trivial
 | [_],_,_=>trivial
 | a::b::l,h,ha=>⟨fun he=>ha.1 (h a (List.mem_cons_self ..) b (List.mem_cons_of_mem _ (List.mem_cons_self ..)) he),
   adj_map (b::l) (fun x hx y hy=>h x (List.mem_cons_of_mem _ hx) y (List.mem_cons_of_mem _ hy)) ha.2⟩
theorem map_inj_on {f:Int->Int}:∀ {l k:List Int},(∀a∈l,∀b∈k,f a=f b->a=b)->l.map f=k.map f->l=k
 | [],[],_,_=>rfl
 | [],_::_,_,h=>by simp at h
 | _::_,[],_,h=>by simp at h
 | a::l,b::k,hf,h=>by{rw[List.map_cons,List.map_cons,List.cons.injEq]at h;rw[hf a (List.mem_cons_self ..) b (List.mem_cons_self ..) h.1,map_inj_on (fun x hx y hy=>hf x (List.mem_cons_of_mem _ hx) y (List.mem_cons_of_mem _ hy)) h.2]}
theorem nodup_map_dg {α β:Type}(f:α->β):∀(l:List α),l.Nodup->(∀x∈l,∀y∈l,f x=f y->x=y)->(l.map f).Nodup
 | [],_,_=>List.nodup_nil
 | a::l,nd,inj=>by{rw[List.nodup_cons]at nd;rw[List.map_cons,List.nodup_cons];refine⟨?_,nodup_map_dg f l nd.2 fun x hx y hy=>inj x (List.mem_cons_of_mem _ hx) y (List.mem_cons_of_mem _ hy)⟩;intro hm;obtain⟨y,hy,he⟩:=List.mem_map.1 hm;exact nd.1 (inj a (List.mem_cons_self ..) y (List.mem_cons_of_mem _ hy) he.symm▸hy)}
theorem from_good (g:GoodT nf lo hi t M){o:List Nat}(ho:OrderD t o):GoodT nf lo hi (fromD t o) (fun k=>M (o.getD k 0)):=by
 have kinj:∀x y,x<o.length->y<o.length->∀(hx:x<o.length) (hy:y<o.length),∀a∈(t.getD o[x] default).kids,∀b∈(t.getD o[y] default).kids,((o.idxOf a.toNat:Nat):Int)=((o.idxOf b.toNat:Nat):Int)->a=b:=by{intro x y _ _ hx hy a ha b hb he;have h1:=ho.closed _ (List.getElem_mem hx) a ha;have h2:=ho.closed _ (List.getElem_mem hy) b hb;have h3:=idx_inj h1 h2 (by omega);have h4:=(((g.table _ (ho.inside _ (List.getElem_mem hx))).inner (List.ne_nil_of_mem ha)).2.2.2.2.2.2.2 a ha).1;have h5:=(((g.table _ (ho.inside _ (List.getElem_mem hy))).inner (List.ne_nil_of_mem hb)).2.2.2.2.2.2.2 b hb).1;omega}
 refine⟨?_,?_,?_,g.dom⟩
 {intro k hk;rw[fromD_len]at hk;have hx:=ho.inside _ (List.getElem_mem hk);have hp:=g.table _ hx;rw[fromD_get hk];refine⟨fun he=>?_,fun he=>?_⟩;{exact hp.leaf (by simpa using he)};{(have hne:(t.getD o[k] default).kids≠[]:=by simpa using he);have hi':=hp.inner hne;refine⟨hi'.1,hi'.2.1,hi'.2.2.1,hi'.2.2.2.1,by rw[List.length_map];exact hi'.2.2.2.2.1,hi'.2.2.2.2.2.1,adj_map _ (fun a ha b hb he=>kinj k k hk hk hk hk a ha b hb he) hi'.2.2.2.2.2.2.1,?_⟩;intro j hj;obtain⟨a,ha,rfl⟩:=List.mem_map.1 hj;have hm:=ho.closed _ (List.getElem_mem hk) a ha;refine⟨Int.natCast_nonneg _,?_,?_⟩;{rw[fromD_len,Int.toNat_natCast];exact List.idxOf_lt_length_of_mem hm};{show _<rankD nf ((fromD t o).getD ((o.idxOf a.toNat:Nat):Int).toNat default);rw[Int.toNat_natCast,from_rank hm];exact(hi'.2.2.2.2.2.2.2 a ha).2.2}}}
 ·intro k hk c fc
  rw[fromD_len]at hk;have hx:=ho.inside _ (List.getElem_mem hk)
  show M (o.getD k 0) c=_
  rw[getD_dg _ _ _ hk,fromD_get hk,g.reads _ hx c fc];by_cases hne:(t.getD o[k] default).kids=[]
  {rw[if_pos hne,if_pos (show(t.getD o[k] default).kids.map (fun x=>((o.idxOf x.toNat:Nat):Int))=[] by rw[hne];rfl)]}
  ·have hm:=kidAt_mem (g.table _ hx) hne (c (t.getD o[k] default).fact.toNat)
   have hc:=ho.closed _ (List.getElem_mem hk) _ hm;have h2:=List.idxOf_lt_length_of_mem hc;have hlen:=((g.table _ hx).inner hne).2.2.2.2.1;have hnl:=nextI_le (t.getD o[k] default).cuts (c (t.getD o[k] default).fact.toNat);rw[if_neg hne,if_neg (by simpa using hne)]
   have he:kidAt ⟨(t.getD o[k] default).fact,(t.getD o[k] default).cuts,(t.getD o[k] default).kids.map fun x=>((o.idxOf x.toNat:Nat):Int),(t.getD o[k] default).leaf⟩ (c (t.getD o[k] default).fact.toNat)=
     ((o.idxOf (kidAt (t.getD o[k] default) (c (t.getD o[k] default).fact.toNat)).toNat:Nat):Int):=by
    show((t.getD o[k] default).kids.map fun x=>((o.idxOf x.toNat:Nat):Int)).getD (nextI (t.getD o[k] default).cuts (c (t.getD o[k] default).fact.toNat)) 0=_
    rw[getD_map_lt _ _ _ _ 0 (by omega)]
    rfl
   rw[he,Int.toNat_natCast]
   show _=M (o.getD (o.idxOf _) 0) c
   rw[getD_dg _ _ _ h2,List.getElem_idxOf h2]
 {(unfold fromD);refine nodup_map_dg _ o ho.nodup ?_;intro x hx y hy he;simp only[Dn.mk.injEq]at he;obtain⟨i,hi',rfl⟩:=List.mem_iff_getElem.1 hx;obtain⟨j,hj,rfl⟩:=List.mem_iff_getElem.1 hy;refine node_inj g.nodup (ho.inside _ hx) (ho.inside _ hy) ?_;have hk:=map_inj_on (f:=fun x:Int=>((o.idxOf x.toNat:Nat):Int)) (fun a ha b hb h=>kinj i j hi' hj hi' hj a ha b hb h) he.2.2.1;have e1:=he.1;have e2:=he.2.1;have e4:=he.2.2.2;revert hk e1 e2 e4;generalize t.getD o[i] default=n;generalize t.getD o[j] default=m;intro hk e1 e2 e4;(cases n;cases m);simp_all}
theorem from_again (g:GoodT nf lo hi t M){f x:Nat}(hx:x<t.length)(hf:nf<f):
  fromD (fromD t (visitD t f [] x)) (visitD (fromD t (visitD t f [] x)) f [] 0)=fromD t (visitD t f [] x):=by
 obtain⟨ho,u,hu⟩:=visit_order g.table hx hf;have g':=from_good g ho;refine(same_diagram g g' hx (y:=0) (by rw[fromD_len,hu];simp) ?_ f).symm;intro c _;rw[hu]
 rfl
end
section
variable {nf : Nat} {lo hi : Nat -> Int} {t : List Dn} {M : Nat -> (Nat -> Int) -> Bool}
def notN (n:Dn):Dn:=⟨n.fact,n.cuts,n.kids,if n.kids=[]then !n.leaf else n.leaf⟩
def notD (t:List Dn):List Dn:=t.map notN
theorem notD_get {k:Nat}(h:k<t.length):(notD t).getD k default=notN (t.getD k default):=by
 unfold notD;rw[getD_map_lt _ _ _ _ default h]
theorem notN_rank (n:Dn):rankD nf (notN n)=rankD nf n:=rfl
theorem notN_inj {n m:Dn}(h:notN n=notN m):n=m:=by
 cases n;cases m
 simp only[notN,Dn.mk.injEq]at h;obtain⟨h1,h2,h3,h4⟩:=h;subst h1 h2 h3
 split at h4<;>simp_all
theorem not_good (g:GoodT nf lo hi t M):GoodT nf lo hi (notD t) (fun k c=> !M k c):=by
 have hl:(notD t).length=t.length:=by unfold notD;rw[List.length_map]
 refine⟨?_,?_,?_,g.dom⟩
 ·intro k hk
  rw[hl]at hk;have hp:=g.table k hk;rw[notD_get hk];refine⟨fun h=>hp.leaf h,fun h=>?_⟩;have h:(t.getD k default).kids≠[]:=h;have hi':=hp.inner h;refine⟨?_,hi'.2.1,hi'.2.2.1,hi'.2.2.2.1,hi'.2.2.2.2.1,hi'.2.2.2.2.2.1,hi'.2.2.2.2.2.2.1,?_⟩
  ·show(if(t.getD k default).kids=[]then !(t.getD k default).leaf else(t.getD k default).leaf)=false
   rw[if_neg h];exact hi'.1
  {intro j hj;have h1:=hi'.2.2.2.2.2.2.2 j hj;refine⟨h1.1,by rw[hl];exact h1.2.1,?_⟩;show _<rankD nf ((notD t).getD j.toNat default);rw[notD_get h1.2.1,notN_rank];exact h1.2.2}
 ·intro k hk c fc
  rw[hl]at hk;rw[notD_get hk]
  show(!M k c)=if(t.getD k default).kids=[]then(if(t.getD k default).kids=[]then !(t.getD k default).leaf else(t.getD k default).leaf)else !M (kidAt (t.getD k default) (c (t.getD k default).fact.toNat)).toNat c
  rw[g.reads k hk c fc];by_cases h:(t.getD k default).kids=[]
  {simp only[if_pos h]}
  {simp only[if_neg h]}
 {exact nodup_map_dg _ t g.nodup fun x _ y _ h=>notN_inj h}
theorem visit_kids {t t':List Dn}(h:∀k,(t.getD k default).kids=(t'.getD k default).kids):∀(f:Nat) (o:List Nat) (x:Nat),visitD t f o x=visitD t' f o x:=by
 intro f
 induction f with| zero=>intro o x;rfl| succ f ih=>{intro o x;(have he:(fun(o:List Nat) (k:Int)=>visitD t f o k.toNat)=fun o k=>visitD t' f o k.toNat:=by{funext o k;exact ih o k.toNat});unfold visitD;rw[h x,he]}
theorem not_kids (t:List Dn)(k:Nat):((notD t).getD k default).kids=(t.getD k default).kids:=by
 rcases Nat.lt_or_ge k t.length with h | h
 {rw[notD_get h];rfl}
 {unfold notD;rw[List.getD_eq_getElem?_getD,List.getD_eq_getElem?_getD,List.getElem?_map,List.getElem?_eq_none h];rfl}
theorem not_not (t:List Dn):notD (notD t)=t:=by
 unfold notD;rw[List.map_map]
 have:(notN∘notN)=id:=by{funext n;(cases n);simp only[Function.comp,notN,id];split<;>simp_all}
 rw[this,List.map_id]
end
section
variable {nf : Nat} {lo hi : Nat -> Int} {t : List Dn} {M : Nat -> (Nat -> Int) -> Bool}
def liveN (n:Dn):Bool:= !n.kids.isEmpty || n.leaf
def firstD (t:List Dn)(n:Dn):Nat:=n.kids.findIdx fun k=>liveN (t.getD k.toNat default)
def leastD (t:List Dn):Nat->Nat->(Nat->Int)->(Nat->Int)×Nat
 | 0,x,c=>(c,x)
 | f+1,x,c=>
  if(t.getD x default).kids=[]then(c,x)
  else leastD t f ((t.getD x default).kids.getD (firstD t (t.getD x default)) 0).toNat
   (if 0<firstD t (t.getD x default)then updC c (t.getD x default).fact.toNat ((t.getD x default).cuts.getD (firstD t (t.getD x default)-1) 0)else c)
theorem live_false {n:Dn}(h:liveN n=false):n.kids=[]/\ n.leaf=false:=by
 unfold liveN at h;cases hk:n.kids<;>simp_all
theorem first_lt (g:GoodT nf lo hi t M){x:Nat}(hx:x<t.length)(hk:(t.getD x default).kids≠[]):firstD t (t.getD x default)<(t.getD x default).kids.length:=by
 have hin:=(g.table x hx).inner hk
 obtain⟨a,b,l,he⟩:∃a b l,(t.getD x default).kids=a::b::l:=by{have h1:=hin.2.2.2.2.1;have h2:=hin.2.2.2.1;cases hc:(t.getD x default).cuts with| nil=>exact absurd hc h2| cons c cs=>{rw[hc]at h1;cases hks:(t.getD x default).kids with| nil=>rw[hks]at h1;simp at h1| cons a m=>{cases m with| nil=>rw[hks]at h1;simp at h1| cons b l=>exact⟨a,b,l,rfl⟩}}}
 unfold firstD;refine List.findIdx_lt_length.2 ?_;have ha:=hin.2.2.2.2.2.2.2 a (by rw[he];exact List.mem_cons_self ..);have hb:=hin.2.2.2.2.2.2.2 b (by rw[he];exact List.mem_cons_of_mem _ (List.mem_cons_self ..));by_cases h1:liveN (t.getD a.toNat default)=true
 {exact⟨a,by rw[he];exact List.mem_cons_self ..,h1⟩}
 {by_cases h2:liveN (t.getD b.toNat default)=true;{exact⟨b,by rw[he];exact List.mem_cons_of_mem _ (List.mem_cons_self ..),h2⟩};{exfalso;have f1:=live_false (n:=t.getD a.toNat default) (Bool.eq_false_iff.2 h1);have f2:=live_false (n:=t.getD b.toNat default) (Bool.eq_false_iff.2 h2);have p1:=(g.table _ ha.2.1).leaf f1.1;have p2:=(g.table _ hb.2.1).leaf f2.1;have hab:a.toNat=b.toNat:=by{refine node_inj g.nodup ha.2.1 hb.2.1 ?_;revert f1 f2 p1 p2;generalize t.getD a.toNat default=n;generalize t.getD b.toNat default=m;intro f1 f2 p1 p2;(cases n;cases m);simp_all};have hadj:=hin.2.2.2.2.2.2.1;rw[he]at hadj;have:=ha.1;have:=hb.1;exact hadj.1 (by omega)}}
end
section
variable {nf : Nat} {lo hi : Nat -> Int} {t : List Dn} {M : Nat -> (Nat -> Int) -> Bool}
theorem next_between :∀(l:List Int) (u v:Int),u<=v->(∀c∈l,¬(u<c/\ c<=v))->nextI l u=nextI l v
 | [],_,_,_,_=>rfl
 | c::l,u,v,huv,h=>by{have h0:=h c (List.mem_cons_self ..);(rcases Int.lt_or_le u c with h1 | h1);{rw[nextI_lt h1,nextI_lt (by omega)]};{rw[nextI_ge h1,nextI_ge (by omega),next_between l u v huv fun c hc=>h c (List.mem_cons_of_mem _ hc)]}}
theorem chain_mem {h:Int}:∀(l:List Int) (b:Int),chainI h b l->∀s∈l,b<s/\ s<=h
 | [],_,_,_,hs=>by simp at hs
 | c::l,b,hc,s,hs=>by{have h1:=hc.1;(rcases List.mem_cons.1 hs with hs | hs);{rw[hs];exact⟨h1,hc.2.1⟩};{have:=chain_mem l c hc.2.2 s hs;exact⟨by omega,this.2⟩}}
theorem start_at {h:Int}:∀(l:List Int) (b v:Int),chainI h b l->b<=v->
  (b::l).getD (nextI l v) 0<=v/\ b<=(b::l).getD (nextI l v) 0/\ ∀s∈b::l,s<=v->s<=(b::l).getD (nextI l v) 0
 | [],b,v,_,hv=>⟨hv,Int.le_refl _,fun s hs _=>by simp at hs;subst hs;exact Int.le_refl _⟩
 | c::l,b,v,hc,hv=>by{have h1:=hc.1;(rcases Int.lt_or_le v c with h2 | h2);{rw[nextI_lt h2,List.getD_cons_zero];refine⟨hv,Int.le_refl _,fun s hs hsv=>?_⟩;(rcases List.mem_cons.1 hs with hs | hs);{rw[hs];exact Int.le_refl _};{(rcases List.mem_cons.1 hs with hs | hs);{omega};{have:=chain_mem l c hc.2.2 s hs;omega}}};{rw[nextI_ge h2,List.getD_cons_succ];have ih:=start_at l c v hc.2.2 h2;refine⟨ih.1,by have:=ih.2.1;omega,fun s hs hsv=>?_⟩;(rcases List.mem_cons.1 hs with hs | hs);{have:=ih.2.1;omega};{exact ih.2.2 s hs hsv}}}
theorem next_start {h:Int}{l cuts:List Int}{b v:Int}(hc:chainI h b l)(hv:b<=v)(hsub:∀c∈cuts,c∈b::l):nextI cuts ((b::l).getD (nextI l v) 0)=nextI cuts v:=by
 have hs:=start_at l b v hc hv;refine next_between _ _ _ hs.1 ?_;intro c hm hcc;have:=hs.2.2 c (hsub c hm) hcc.2;omega
def stepN (t:List Dn)(x i:Nat)(v:Int):Nat:=
 if(t.getD x default).kids≠[]/\ (t.getD x default).fact=(i:Int)then(kidAt (t.getD x default) v).toNat else x
theorem stepN_means (g:GoodT nf lo hi t M){x i:Nat}(hx:x<t.length){c:Nat->Int}(fc:fitsC nf lo hi c):M (stepN t x i (c i)) c=M x c:=by
 unfold stepN
 split
 {next h=>rw[g.reads x hx c fc,if_neg h.1,h.2,Int.toNat_natCast]}
 {rfl}
theorem stepN_lt (g:GoodT nf lo hi t M){x i:Nat}(hx:x<t.length)(hi':i<nf)(hr:i<=rankD nf (t.getD x default))(v:Int):stepN t x i v<t.length/\ i<rankD nf (t.getD (stepN t x i v) default):=by
 unfold stepN
 split
 ·next h=>
  have hm:=((g.table x hx).inner h.1).2.2.2.2.2.2.2 _ (kidAt_mem (g.table x hx) h.1 v);have h2:(t.getD x default).fact.toNat<rankD nf (t.getD (kidAt (t.getD x default) v).toNat default):=hm.2.2;rw[h.2,Int.toNat_natCast]at h2;exact⟨hm.2.1,h2⟩
 ·next h=>
  refine⟨hx,?_⟩;rcases Nat.lt_or_ge i (rankD nf (t.getD x default))with h1 | h1
  {exact h1}
  {exfalso;(have h2:i=rankD nf (t.getD x default):=by omega);by_cases hk:(t.getD x default).kids=[];{unfold rankD at h2;rw[if_pos hk]at h2;omega};{have h3:=((g.table x hx).inner hk).2.1;unfold rankD at h2;rw[if_neg hk]at h2;exact h ⟨hk,by omega⟩}}
theorem stepN_start {x i:Nat}{l:List Int}{b v:Int}{h:Int}(hc:chainI h b l)(hv:b<=v)(hsub:(t.getD x default).kids≠[]->(t.getD x default).fact=(i:Int)->∀c∈(t.getD x default).cuts,c∈b::l):
  stepN t x i ((b::l).getD (nextI l v) 0)=stepN t x i v:=by
 unfold stepN
 split
 ·next hk=>
  unfold kidAt;rw[next_start hc hv (hsub hk.1 hk.2)]
 {rfl}
theorem inner_means {m:List Dn}(hm:Made nf lo hi m){i:Nat}(hi':i<nf)(k0:Int)(ss ks:List Int)(hl:ks.length=ss.length)(hc:chainI (hi i) (lo i) ss)
  (hk:∀k∈k0::ks,0<=k/\ k.toNat<m.length/\ i<rankD nf (m.getD k.toNat default)) {F:(Nat->Int)->Bool} {G:Int->(Nat->Int)->Bool}
  (hG:∀j,j<(k0::ks).length->∀c,fitsC nf lo hi c->readT m ((k0::ks).getD j 0).toNat c=G ((lo i::ss).getD j 0) c)
  (hF:∀c,fitsC nf lo hi c->F c=G ((lo i::ss).getD (nextI ss (c i)) 0) c):
  ∀c,fitsC nf lo hi c->readT (innerD m i (lo i::ss) (k0::ks)).1 (innerD m i (lo i::ss) (k0::ks)).2 c=F c:=by
 intro c fc;rw[(innerD_made hm hi' (lo i) k0 ss ks hl hc hk).2.2.2.2 c fc,hF c fc];refine hG _ ?_ c fc;have:=nextI_le ss (c i);rw[List.length_cons];omega
theorem joint_means {a b:List Dn}{A B:Nat->(Nat->Int)->Bool}(ga:GoodT nf lo hi a A)(gb:GoodT nf lo hi b B){x y:Nat}(hx:x<a.length)(hy:y<b.length)
  {m:List Dn} (hm:Made nf lo hi m) {i:Nat} (hi':i<nf) (k0:Int) (ss ks:List Int) (hl:ks.length=ss.length) (hc:chainI (hi i) (lo i) ss)
  (hk:∀k∈k0::ks,0<=k/\ k.toNat<m.length/\ i<rankD nf (m.getD k.toNat default))
  (hsa:(a.getD x default).kids≠[]->(a.getD x default).fact=(i:Int)->∀c∈(a.getD x default).cuts,c∈lo i::ss)
  (hsb:(b.getD y default).kids≠[]->(b.getD y default).fact=(i:Int)->∀c∈(b.getD y default).cuts,c∈lo i::ss)
  (hG:∀j,j<(k0::ks).length->∀c,fitsC nf lo hi c->readT m ((k0::ks).getD j 0).toNat c=(A (stepN a x i ((lo i::ss).getD j 0)) c&& B (stepN b y i ((lo i::ss).getD j 0)) c)):
  ∀c,fitsC nf lo hi c->readT (innerD m i (lo i::ss) (k0::ks)).1 (innerD m i (lo i::ss) (k0::ks)).2 c=(A x c&& B y c):=by
 refine inner_means hm hi' k0 ss ks hl hc hk (F:=fun c=>A x c&& B y c) (G:=fun v c=>A (stepN a x i v) c&& B (stepN b y i v) c) hG ?_;intro c fc;have hv:=(fc i hi').1;rw[stepN_start hc hv hsa,stepN_start hc hv hsb,stepN_means ga hx fc,stepN_means gb hy fc]
end
section
variable {nf : Nat} {lo hi : Nat -> Int} {a b : List Dn} {A B : Nat -> (Nat -> Int) -> Bool}
abbrev MemoJ :=List ((Nat×Nat)×Nat)
def minR (nf:Nat)(a b:List Dn)(x y:Nat):Nat:=min (rankD nf (a.getD x default)) (rankD nf (b.getD y default))
def bothD (nf:Nat)(a b:List Dn)(S:Nat->Nat->List Int)(L:Nat):Nat->List Dn->MemoJ->Nat->Nat->(List Dn×MemoJ)×Nat
 | 0,m,dn,_,_=>((m,dn),0)
 | f+1,m,dn,x,y=>
  match dn.lookup (x,y)with
  | some k=>((m,dn),k)
  | none=>
   if minR nf a b x y=nf\/L<m.length then
    (((addD m ⟨0,[],[],(a.getD x default).leaf&& (b.getD y default).leaf⟩).1,dn),(addD m ⟨0,[],[],(a.getD x default).leaf&& (b.getD y default).leaf⟩).2)
   else
    let r:=(S x y).foldl (fun(st:(List Dn×MemoJ)×List Int) v=>
     let r:=bothD nf a b S L f st.1.1 st.1.2 (stepN a x (minR nf a b x y) v) (stepN b y (minR nf a b x y) v)
     (r.1,st.2++[(r.2:Int)])) ((m,dn),[])
    let q:=innerD r.1.1 (minR nf a b x y) (S x y) r.2
    ((q.1,((x,y),q.2)::r.1.2),q.2)
structure NodeJ (nf : Nat) (lo hi : Nat -> Int) (a b : List Dn) (A B : Nat -> (Nat -> Int) -> Bool) (m : List Dn) (x y k : Nat) : Prop where
 lt:k<m.length
 rank:minR nf a b x y<=rankD nf (m.getD k default)
 means:∀c,fitsC nf lo hi c->readT m k c=(A x c&& B y c)
structure InvJ (nf : Nat) (lo hi : Nat -> Int) (a b : List Dn) (A B : Nat -> (Nat -> Int) -> Bool) (R : Nat -> Nat -> Prop) (m : List Dn) (dn : MemoJ) : Prop where
 made:Made nf lo hi m
 from_:∀k,k<m.length->(m.getD k default).kids≠[]->∃x y,R x y/\ (m.getD k default).fact=(minR nf a b x y:Nat)/\ ∀c,fitsC nf lo hi c->readT m k c=(A x c&& B y c)
 memo:∀x y k,dn.lookup (x,y)=some k->NodeJ nf lo hi a b A B m x y k
theorem NodeJ.more {m:List Dn}{x y k:Nat}(h:NodeJ nf lo hi a b A B m x y k)(u:List Dn):NodeJ nf lo hi a b A B (m++u) x y k:=by
 have hg:(m++u).getD k default=m.getD k default:=by{rw[getD_dg _ _ _ (by rw[List.length_append];have:=h.lt;omega),getD_dg _ _ _ h.lt,List.getElem_append_left h.lt]}
 refine⟨by rw[List.length_append];have:=h.lt;omega,by rw[hg];exact h.rank,?_⟩;intro c fc;rw[readT_append m c h.lt u];exact h.means c fc
theorem from_add {R:Nat->Nat->Prop}{m:List Dn}{n:Dn}(_ho:OverD nf lo hi m n)(_hm:Made nf lo hi m)
  (hfr:∀k,k<m.length->(m.getD k default).kids≠[]->∃x y,R x y/\ (m.getD k default).fact=(minR nf a b x y:Nat)/\ ∀c,fitsC nf lo hi c->readT m k c=(A x c&& B y c))
  (hn:n.kids≠[]->∃x y,R x y/\ n.fact=(minR nf a b x y:Nat)/\ ∀c,fitsC nf lo hi c->readT (addD m n).1 (addD m n).2 c=(A x c&& B y c)):
  ∀k,k<(addD m n).1.length->((addD m n).1.getD k default).kids≠[]->∃x y,R x y/\ ((addD m n).1.getD k default).fact=(minR nf a b x y:Nat)/\ ∀c,fitsC nf lo hi c->readT (addD m n).1 k c=(A x c&& B y c):=by
 unfold addD at hn⊢;by_cases h:n∈m
 {rw[if_pos h];exact hfr}
 {rw[if_neg h]at hn⊢;intro k hk hkk;have hk:k<(m++[n]).length:=hk;rw[List.length_append]at hk;have hkk:((m++[n]).getD k default).kids≠[]:=hkk;show ∃x y,R x y/\ ((m++[n]).getD k default).fact=(minR nf a b x y:Nat)/\ ∀c,fitsC nf lo hi c->readT (m++[n]) k c=(A x c&& B y c);(rcases Nat.lt_or_ge k m.length with h1 | h1);{rw[getD_snoc _ _ _ h1]at hkk⊢;obtain⟨x,y,h2,h3,h4⟩:=hfr k h1 hkk;exact⟨x,y,h2,h3,fun c fc=>by rw[readT_snoc _ _ _ h1];exact h4 c fc⟩};{(have:k=m.length:=by simp at hk;omega);subst this;rw[getD_snoc_last]at hkk⊢;exact hn hkk}}
theorem both_ok (ga:GoodT nf lo hi a A)(gb:GoodT nf lo hi b B){R:Nat->Nat->Prop}{S:Nat->Nat->List Int}{L:Nat}
  (hcap:∀m dn,InvJ nf lo hi a b A B R m dn->m.length<=L) (hRl:∀x y,R x y->x<a.length/\ y<b.length)
  (hRs:∀x y v,R x y->minR nf a b x y<nf->v∈S x y->R (stepN a x (minR nf a b x y) v) (stepN b y (minR nf a b x y) v))
  (hS:∀x y,R x y->minR nf a b x y<nf->∃ss,S x y=lo (minR nf a b x y)::ss/\ chainI (hi (minR nf a b x y)) (lo (minR nf a b x y)) ss/\
   ((a.getD x default).kids≠[]->(a.getD x default).fact=(minR nf a b x y:Nat)->∀c∈(a.getD x default).cuts,c∈lo (minR nf a b x y)::ss)/\
   ((b.getD y default).kids≠[]->(b.getD y default).fact=(minR nf a b x y:Nat)->∀c∈(b.getD y default).cuts,c∈lo (minR nf a b x y)::ss)):
  ∀(f:Nat) (m:List Dn) (dn:MemoJ) (x y:Nat),InvJ nf lo hi a b A B R m dn->R x y->nf-minR nf a b x y<f->
  InvJ nf lo hi a b A B R (bothD nf a b S L f m dn x y).1.1 (bothD nf a b S L f m dn x y).1.2/\ NodeJ nf lo hi a b A B (bothD nf a b S L f m dn x y).1.1 x y (bothD nf a b S L f m dn x y).2/\
  ∃u,(bothD nf a b S L f m dn x y).1.1=m++u:=by
 intro f
 induction f with
 | zero=>intro m dn x y _ _ h;omega
 | succ f ih=>
  intro m dn x y hI hR hf;have hxy:=hRl x y hR;unfold bothD;cases hlk:dn.lookup (x,y)with
  | some k=>exact⟨hI,hI.memo x y k hlk,[],by simp⟩
  | none=>
   dsimp only
   have hL:=hcap m dn hI;have hle:minR nf a b x y<=nf:=Nat.le_trans (Nat.min_le_left _ _) (rank_le_nf ga.table hxy.1);by_cases hend:minR nf a b x y=nf\/L<m.length
   {rw[if_pos hend];(have hnf:minR nf a b x y=nf:=by rcases hend with h | h;exact h;omega);have ho:OverD nf lo hi m ⟨0,[],[],(a.getD x default).leaf&& (b.getD y default).leaf⟩:=⟨fun _=>⟨rfl,rfl⟩,fun h=>absurd rfl h⟩;obtain⟨h1,h2,h3,u,h4⟩:=addD_made hI.made ho;refine⟨⟨h1,from_add ho hI.made hI.from_ (fun h=>absurd rfl h),?_⟩,⟨h2,?_,?_⟩,u,h4⟩;{intro x' y' k' hl;show NodeJ nf lo hi a b A B (addD m _).1 x' y' k';rw[h4];exact(hI.memo x' y' k' hl).more u};{rw[h3];unfold rankD;rw[if_pos rfl];exact hle};{intro c fc;rw[h1.reads _ h2 c fc,h3];have ha:(a.getD x default).kids=[]:=by{apply Classical.byContradiction;intro h;have h5:=((ga.table x hxy.1).inner h).2.2.1;have h6:minR nf a b x y<=rankD nf (a.getD x default):=Nat.min_le_left _ _;unfold rankD at h6;rw[if_neg h]at h6;omega};have hb:(b.getD y default).kids=[]:=by{apply Classical.byContradiction;intro h;have h5:=((gb.table y hxy.2).inner h).2.2.1;have h6:minR nf a b x y<=rankD nf (b.getD y default):=Nat.min_le_right _ _;unfold rankD at h6;rw[if_neg h]at h6;omega};rw[ga.reads x hxy.1 c fc,gb.reads y hxy.2 c fc,if_pos ha,if_pos hb];rfl}}
   ·rw[if_neg hend]
    have hi':minR nf a b x y<nf:=by omega
    obtain⟨ss,hSe,hch,hsa,hsb⟩:=hS x y hR hi';have hRv:=fun v=>hRs x y v hR hi'
    have hra:minR nf a b x y<=rankD nf (a.getD x default):=Nat.min_le_left _ _;have hrb:minR nf a b x y<=rankD nf (b.getD y default):=Nat.min_le_right _ _
    have key:∀(l:List Int),(∀v∈l,v∈S x y)->∀(st:(List Dn×MemoJ)×List Int) (pre:List Int),InvJ nf lo hi a b A B R st.1.1 st.1.2->st.2.length=pre.length->
      (∀j,j<st.2.length->0<=st.2.getD j 0/\ NodeJ nf lo hi a b A B st.1.1 (stepN a x (minR nf a b x y) (pre.getD j 0)) (stepN b y (minR nf a b x y) (pre.getD j 0)) (st.2.getD j 0).toNat)->
      let r:=l.foldl (fun(st:(List Dn×MemoJ)×List Int) v=>
       let r:=bothD nf a b S L f st.1.1 st.1.2 (stepN a x (minR nf a b x y) v) (stepN b y (minR nf a b x y) v)
       (r.1,st.2++[(r.2:Int)])) st
      InvJ nf lo hi a b A B R r.1.1 r.1.2/\ r.2.length=(pre++l).length/\
      (∀j,j<r.2.length->0<=r.2.getD j 0/\ NodeJ nf lo hi a b A B r.1.1 (stepN a x (minR nf a b x y) ((pre++l).getD j 0)) (stepN b y (minR nf a b x y) ((pre++l).getD j 0)) (r.2.getD j 0).toNat)/\ ∃u,r.1.1=st.1.1++u:=by
     intro l
     induction l with
     | nil=>intro _ st pre h1 h2 h3;exact⟨h1,by simpa using h2,by simpa using h3,[],by simp⟩
     | cons v l ihl=>
      intro hl st pre h1 h2 h3;have hv:=hRv v (hl v (List.mem_cons_self ..));have s1:=stepN_lt ga hxy.1 hi' hra v;have s2:=stepN_lt gb hxy.2 hi' hrb v
      have hmin:minR nf a b x y<minR nf a b (stepN a x (minR nf a b x y) v) (stepN b y (minR nf a b x y) v):=by{show _<min _ _;omega}
      have hr:=ih st.1.1 st.1.2 _ _ h1 hv (by
       have:minR nf a b (stepN a x (minR nf a b x y) v) (stepN b y (minR nf a b x y) v)<=nf:=Nat.le_trans (Nat.min_le_left _ _) (rank_le_nf ga.table s1.1)
       omega)
      obtain⟨u,hu⟩:=hr.2.2
      have hn:=ihl (fun w hw=>hl w (List.mem_cons_of_mem _ hw)) ((bothD nf a b S L f st.1.1 st.1.2 (stepN a x (minR nf a b x y) v) (stepN b y (minR nf a b x y) v)).1,st.2++[((bothD nf a b S L f st.1.1 st.1.2 (stepN a x (minR nf a b x y) v) (stepN b y (minR nf a b x y) v)).2:Int)]) (pre++[v]) hr.1
       (by simp[h2]) (by
        intro j hj
        have hj:j<(st.2++[((bothD nf a b S L f st.1.1 st.1.2 (stepN a x (minR nf a b x y) v) (stepN b y (minR nf a b x y) v)).2:Int)]).length:=hj
        rw[List.length_append]at hj
        rcases Nat.lt_or_ge j st.2.length with hj1 | hj1
        {have:=h3 j hj1;rw[getD_snoc _ _ _ hj1,getD_snoc _ _ _ (by omega)];refine⟨this.1,?_⟩;show NodeJ nf lo hi a b A B (bothD nf a b S L f st.1.1 st.1.2 _ _).1.1 _ _ _;rw[hu];exact this.2.more u}
        ·have hje:j=st.2.length:=by simp at hj;omega
         subst hje
         rw[getD_snoc_last]
         rw[h2,getD_snoc_last]
         exact⟨Int.natCast_nonneg _,by rw[Int.toNat_natCast];exact hr.2.1⟩)
      rw[List.foldl_cons];rw[List.append_assoc]at hn;obtain⟨n1,n2,n3,w,n4⟩:=hn;exact⟨n1,n2,n3,u++w,by rw[n4];show(bothD nf a b S L f st.1.1 st.1.2 _ _).1.1++w=_;rw[hu,List.append_assoc]⟩
    have hk:=key (S x y) (fun _ h=>h) ((m,dn),[]) [] hI rfl (fun j hj=>absurd hj (Nat.not_lt_zero j));revert hk
    generalize(S x y).foldl (fun(st:(List Dn×MemoJ)×List Int) v=>
       let r:=bothD nf a b S L f st.1.1 st.1.2 (stepN a x (minR nf a b x y) v) (stepN b y (minR nf a b x y) v)
       (r.1,st.2++[(r.2:Int)])) ((m,dn),[])=r
    intro hk;obtain⟨k1,k2,k3,u,k4⟩:=hk;rw[List.nil_append,hSe]at k2;simp only[List.nil_append]at k3;rw[hSe]at k3⊢;obtain⟨⟨rm,rd⟩,rk⟩:=r;simp only at k1 k2 k3 k4;obtain⟨k0,ks,rfl⟩:∃k0 ks,rk=k0::ks:=by cases rk with | nil=>simp at k2 | cons p q=>exact⟨p,q,rfl⟩
    have hl:ks.length=ss.length:=by simpa using k2
    have hkk:∀k∈k0::ks,0<=k/\ k.toNat<rm.length/\ minR nf a b x y<rankD nf (rm.getD k.toNat default):=by{intro k hm;obtain⟨j,hj,rfl⟩:=List.mem_iff_getElem.1 hm;have h1:=k3 j hj;rw[getD_dg _ _ _ hj]at h1;have s1:=stepN_lt ga hxy.1 hi' hra ((lo (minR nf a b x y)::ss).getD j 0);have s2:=stepN_lt gb hxy.2 hi' hrb ((lo (minR nf a b x y)::ss).getD j 0);have h2:=h1.2.rank;have h3:minR nf a b x y<minR nf a b (stepN a x (minR nf a b x y) ((lo (minR nf a b x y)::ss).getD j 0)) (stepN b y (minR nf a b x y) ((lo (minR nf a b x y)::ss).getD j 0)):=by{show _<min _ _;omega};exact⟨h1.1,h1.2.lt,by omega⟩}
    have hin:=innerD_made k1.made hi' (lo (minR nf a b x y)) k0 ss ks hl hch hkk;have hme:=joint_means ga gb hxy.1 hxy.2 k1.made hi' k0 ss ks hl hch hkk hsa hsb (fun j hj c fc=>(k3 j hj).2.means c fc);obtain⟨q1,q2,⟨w,q3⟩,q4,_⟩:=hin;have hnode:NodeJ nf lo hi a b A B (innerD rm (minR nf a b x y) (lo (minR nf a b x y)::ss) (k0::ks)).1 x y (innerD rm (minR nf a b x y) (lo (minR nf a b x y)::ss) (k0::ks)).2:=⟨q2,q4,hme⟩;refine⟨⟨q1,?_,?_⟩,hnode,u++w,by show(innerD rm _ _ _).1=_;rw[q3,k4,List.append_assoc]⟩
    ·show ∀k,k<(innerD rm (minR nf a b x y) (lo (minR nf a b x y)::ss) (k0::ks)).1.length->_
     have hsame:=hme;unfold innerD at hsame⊢;simp only[]at hsame⊢
     split
     {exact k1.from_}
     ·next hne=>
      rw[if_neg hne]at hsame;refine from_add ?_ k1.made k1.from_ (fun _=>⟨x,y,hR,rfl,hsame⟩);have hz1:(ss.zip ks).map Prod.fst=ss:=List.map_fst_zip (by omega);have hz2:(ss.zip ks).map Prod.snd=ks:=List.map_snd_zip (by omega);have hdl:=dedI_len (ss.zip ks) k0;refine⟨fun he=>by simp at he,fun _=>⟨rfl,Int.natCast_nonneg _,by simpa using hi',?_,by simp[hdl],?_,dedI_adj _ _,?_⟩⟩
      {intro he;apply hne;have he:(dedI k0 (ss.zip ks)).1=[]:=he;rw[he]at hdl;(have:(dedI k0 (ss.zip ks)).2=[]:=by simpa using hdl);exact this}
      {have:=dedI_chain (hi':=hi (minR nf a b x y)) (ss.zip ks) k0 (lo (minR nf a b x y)) (by rw[hz1];exact hch);simpa using this}
      {intro k hm;(rcases List.mem_cons.1 hm with hm | hm);{rw[hm];simpa using hkk k0 (List.mem_cons_self ..)};{have h5:=dedI_mem (ss.zip ks) k0 k hm;rw[hz2]at h5;simpa using hkk k (List.mem_cons_of_mem _ h5)}}
    {intro x' y' k' hlk';show NodeJ nf lo hi a b A B (innerD rm (minR nf a b x y) (lo (minR nf a b x y)::ss) (k0::ks)).1 x' y' k';have hlk':List.lookup (x',y') (((x,y),(innerD rm (minR nf a b x y) (lo (minR nf a b x y)::ss) (k0::ks)).2)::rd)=some k':=hlk';rw[List.lookup_cons]at hlk';by_cases he:(x',y')=(x,y);{rw[he]at hlk';simp only[beq_self_eq_true]at hlk';injection he with e1 e2;subst e1 e2;injection hlk' with e3;subst e3;exact hnode};{(have:((x',y')==(x,y))=false:=by simpa using he);rw[this]at hlk';rw[q3];exact(k1.memo x' y' k' hlk').more w}}
end
section
variable {nf : Nat} {lo hi : Nat -> Int} {σ κ : Type} [BEq κ] [LawfulBEq κ]
def growD (nf:Nat)(con:σ->Option Bool)(S:Nat->σ->List Int)(giv:Nat->σ->Int->σ)(key:Nat->σ->κ)(L:Nat):Nat->List Dn->List (κ×Nat)->Nat->σ->(List Dn×List (κ×Nat))×Nat
 | 0,m,dn,_,_=>((m,dn),0)
 | f+1,m,dn,i,s=>
  match con s with
  | some bl=>(((addD m ⟨0,[],[],bl⟩).1,dn),(addD m ⟨0,[],[],bl⟩).2)
  | none=>
   if L<m.length\/i=nf then(((addD m ⟨0,[],[],false⟩).1,dn),(addD m ⟨0,[],[],false⟩).2)
   else match dn.lookup (key i s)with
   | some k=>((m,dn),k)
   | none=>
    let r:=(S i s).foldl (fun(st:(List Dn×List (κ×Nat))×List Int) v=>
     let r:=growD nf con S giv key L f st.1.1 st.1.2 (i+1) (giv i s v)
     (r.1,st.2++[(r.2:Int)])) ((m,dn),[])
    let q:=innerD r.1.1 i (S i s) r.2
    ((q.1,(key i s,q.2)::r.1.2),q.2)
structure NodeG (nf : Nat) (lo hi : Nat -> Int) (F : σ -> (Nat -> Int) -> Bool) (m : List Dn) (i : Nat) (s : σ) (k : Nat) : Prop where
 lt:k<m.length
 rank:i<=rankD nf (m.getD k default)
 means:∀c,fitsC nf lo hi c->readT m k c=F s c
structure InvG (nf : Nat) (lo hi : Nat -> Int) (F : σ -> (Nat -> Int) -> Bool) (key : Nat -> σ -> κ) (R : Nat -> σ -> Prop) (m : List Dn) (dn : List (κ × Nat)) : Prop where
 made:Made nf lo hi m
 from_:∀k,k<m.length->(m.getD k default).kids≠[]->∃i s,R i s/\ (m.getD k default).fact=(i:Int)/\ ∀c,fitsC nf lo hi c->readT m k c=F s c
 memo:∀i s k,R i s->dn.lookup (key i s)=some k->NodeG nf lo hi F m i s k
theorem NodeG.more {F:σ->(Nat->Int)->Bool}{m:List Dn}{i:Nat}{s:σ}{k:Nat}(h:NodeG nf lo hi F m i s k)(u:List Dn):NodeG nf lo hi F (m++u) i s k:=by
 have hg:(m++u).getD k default=m.getD k default:=by{rw[getD_dg _ _ _ (by rw[List.length_append];have:=h.lt;omega),getD_dg _ _ _ h.lt,List.getElem_append_left h.lt]}
 refine⟨by rw[List.length_append];have:=h.lt;omega,by rw[hg];exact h.rank,?_⟩;intro c fc;rw[readT_append m c h.lt u];exact h.means c fc
theorem from_addG {F:σ->(Nat->Int)->Bool}{R:Nat->σ->Prop}{m:List Dn}{n:Dn}
  (hfr:∀k,k<m.length->(m.getD k default).kids≠[]->∃i s,R i s/\ (m.getD k default).fact=(i:Int)/\ ∀c,fitsC nf lo hi c->readT m k c=F s c)
  (hn:n.kids≠[]->∃i s,R i s/\ n.fact=(i:Int)/\ ∀c,fitsC nf lo hi c->readT (addD m n).1 (addD m n).2 c=F s c):
  ∀k,k<(addD m n).1.length->((addD m n).1.getD k default).kids≠[]->∃i s,R i s/\ ((addD m n).1.getD k default).fact=(i:Int)/\ ∀c,fitsC nf lo hi c->readT (addD m n).1 k c=F s c:=by
 unfold addD at hn⊢;by_cases h:n∈m
 {rw[if_pos h];exact hfr}
 {rw[if_neg h]at hn⊢;intro k hk hkk;have hk:k<(m++[n]).length:=hk;rw[List.length_append]at hk;have hkk:((m++[n]).getD k default).kids≠[]:=hkk;show ∃i s,R i s/\ ((m++[n]).getD k default).fact=(i:Int)/\ ∀c,fitsC nf lo hi c->readT (m++[n]) k c=F s c;(rcases Nat.lt_or_ge k m.length with h1 | h1);{rw[getD_snoc _ _ _ h1]at hkk⊢;obtain⟨x,y,h2,h3,h4⟩:=hfr k h1 hkk;exact⟨x,y,h2,h3,fun c fc=>by rw[readT_snoc _ _ _ h1];exact h4 c fc⟩};{(have:k=m.length:=by simp at hk;omega);subst this;rw[getD_snoc_last]at hkk⊢;exact hn hkk}}
omit [LawfulBEq κ] in
theorem leafG {F:σ->(Nat->Int)->Bool}{key:Nat->σ->κ}{R:Nat->σ->Prop}{m:List Dn}{dn:List (κ×Nat)}(hI:InvG nf lo hi F key R m dn){i:Nat}(hi':i<=nf){s:σ}{bl:Bool}(hb:∀c,fitsC nf lo hi c->F s c=bl):
  InvG nf lo hi F key R (addD m ⟨0,[],[],bl⟩).1 dn/\ NodeG nf lo hi F (addD m ⟨0,[],[],bl⟩).1 i s (addD m ⟨0,[],[],bl⟩).2/\ ∃u,(addD m ⟨0,[],[],bl⟩).1=m++u:=by
 have ho:OverD nf lo hi m ⟨0,[],[],bl⟩:=⟨fun _=>⟨rfl,rfl⟩,fun h=>absurd rfl h⟩;obtain⟨h1,h2,h3,u,h4⟩:=addD_made hI.made ho;refine⟨⟨h1,from_addG hI.from_ (fun h=>absurd rfl h),?_⟩,⟨h2,?_,?_⟩,u,h4⟩
 {intro i' s' k' hr hl;rw[h4];exact(hI.memo i' s' k' hr hl).more u}
 {rw[h3];unfold rankD;rw[if_pos rfl];exact hi'}
 {intro c fc;rw[h1.reads _ h2 c fc,h3,hb c fc];rfl}
theorem grow_ok {F:σ->(Nat->Int)->Bool}{con:σ->Option Bool}{S:Nat->σ->List Int}{giv:Nat->σ->Int->σ}{key:Nat->σ->κ}{R:Nat->σ->Prop}{L:Nat}
  (hcap:∀m dn,InvG nf lo hi F key R m dn->m.length<=L)
  (hcon:∀i s bl,R i s->con s=some bl->∀c,fitsC nf lo hi c->F s c=bl) (hend:∀s,R nf s->con s≠none) (hRi:∀i s,R i s->i<=nf)
  (hkey:∀i s i' s',R i s->R i' s'->key i s=key i' s'->i=i'/\ ∀c,fitsC nf lo hi c->F s c=F s' c)
  (hRg:∀i s v,R i s->con s=none->i<nf->v∈S i s->R (i+1) (giv i s v))
  (hS:∀i s,R i s->con s=none->i<nf->∃ss,S i s=lo i::ss/\ chainI (hi i) (lo i) ss/\ ∀c,fitsC nf lo hi c->F s c=F (giv i s ((lo i::ss).getD (nextI ss (c i)) 0)) c):
  ∀(f:Nat) (m:List Dn) (dn:List (κ×Nat)) (i:Nat) (s:σ),InvG nf lo hi F key R m dn->R i s->nf-i<f->
  InvG nf lo hi F key R (growD nf con S giv key L f m dn i s).1.1 (growD nf con S giv key L f m dn i s).1.2/\ NodeG nf lo hi F (growD nf con S giv key L f m dn i s).1.1 i s (growD nf con S giv key L f m dn i s).2/\
  ∃u,(growD nf con S giv key L f m dn i s).1.1=m++u:=by
 intro f
 induction f with
 | zero=>intro m dn i s _ _ h;omega
 | succ f ih=>
  intro m dn i s hI hR hf;have hin:=hRi i s hR;unfold growD;cases hc:con s with
  | some bl=>exact leafG hI hin (hcon i s bl hR hc)
  | none=>
   dsimp only
   have hL:=hcap m dn hI
   have hi':i<nf:=by{(rcases Nat.lt_or_ge i nf with h | h);{exact h};{(have:i=nf:=by omega);subst this;exact absurd hc (hend s hR)}}
   rw[if_neg (by omega)];cases hlk:dn.lookup (key i s)with
   | some k=>exact⟨hI,hI.memo i s k hR hlk,[],by simp⟩
   | none=>
    dsimp only
    obtain⟨ss,hSe,hch,hF⟩:=hS i s hR hc hi'
    have keyl:∀(l:List Int),(∀v∈l,v∈S i s)->∀(st:(List Dn×List (κ×Nat))×List Int) (pre:List Int),InvG nf lo hi F key R st.1.1 st.1.2->st.2.length=pre.length->
      (∀j,j<st.2.length->0<=st.2.getD j 0/\ NodeG nf lo hi F st.1.1 (i+1) (giv i s (pre.getD j 0)) (st.2.getD j 0).toNat)->
      let r:=l.foldl (fun(st:(List Dn×List (κ×Nat))×List Int) v=>
       let r:=growD nf con S giv key L f st.1.1 st.1.2 (i+1) (giv i s v)
       (r.1,st.2++[(r.2:Int)])) st
      InvG nf lo hi F key R r.1.1 r.1.2/\ r.2.length=(pre++l).length/\
      (∀j,j<r.2.length->0<=r.2.getD j 0/\ NodeG nf lo hi F r.1.1 (i+1) (giv i s ((pre++l).getD j 0)) (r.2.getD j 0).toNat)/\ ∃u,r.1.1=st.1.1++u:=by
     intro l
     induction l with
     | nil=>intro _ st pre h1 h2 h3;exact⟨h1,by simpa using h2,by simpa using h3,[],by simp⟩
     | cons v l ihl=>
      intro hl st pre h1 h2 h3;have hr:=ih st.1.1 st.1.2 (i+1) (giv i s v) h1 (hRg i s v hR hc hi' (hl v (List.mem_cons_self ..))) (by omega);obtain⟨u,hu⟩:=hr.2.2
      have hn:=ihl (fun w hw=>hl w (List.mem_cons_of_mem _ hw)) ((growD nf con S giv key L f st.1.1 st.1.2 (i+1) (giv i s v)).1,st.2++[((growD nf con S giv key L f st.1.1 st.1.2 (i+1) (giv i s v)).2:Int)]) (pre++[v]) hr.1
       (by simp[h2]) (by
        intro j hj
        have hj:j<(st.2++[((growD nf con S giv key L f st.1.1 st.1.2 (i+1) (giv i s v)).2:Int)]).length:=hj
        rw[List.length_append]at hj
        rcases Nat.lt_or_ge j st.2.length with hj1 | hj1
        {have:=h3 j hj1;rw[getD_snoc _ _ _ hj1,getD_snoc _ _ _ (by omega)];refine⟨this.1,?_⟩;show NodeG nf lo hi F (growD nf con S giv key L f st.1.1 st.1.2 _ _).1.1 _ _ _;rw[hu];exact this.2.more u}
        ·have hje:j=st.2.length:=by simp at hj;omega
         subst hje
         rw[getD_snoc_last]
         rw[h2,getD_snoc_last]
         exact⟨Int.natCast_nonneg _,by rw[Int.toNat_natCast];exact hr.2.1⟩)
      rw[List.foldl_cons];rw[List.append_assoc]at hn;obtain⟨n1,n2,n3,w,n4⟩:=hn;exact⟨n1,n2,n3,u++w,by rw[n4];show(growD nf con S giv key L f st.1.1 st.1.2 _ _).1.1++w=_;rw[hu,List.append_assoc]⟩
    have hk:=keyl (S i s) (fun _ h=>h) ((m,dn),[]) [] hI rfl (fun j hj=>absurd hj (Nat.not_lt_zero j));revert hk
    generalize(S i s).foldl (fun(st:(List Dn×List (κ×Nat))×List Int) v=>
       let r:=growD nf con S giv key L f st.1.1 st.1.2 (i+1) (giv i s v)
       (r.1,st.2++[(r.2:Int)])) ((m,dn),[])=r
    intro hk;obtain⟨k1,k2,k3,u,k4⟩:=hk;rw[List.nil_append,hSe]at k2;simp only[List.nil_append]at k3;rw[hSe]at k3⊢;obtain⟨⟨rm,rd⟩,rk⟩:=r;simp only at k1 k2 k3 k4;obtain⟨k0,ks,rfl⟩:∃k0 ks,rk=k0::ks:=by cases rk with | nil=>simp at k2 | cons p q=>exact⟨p,q,rfl⟩
    have hl:ks.length=ss.length:=by simpa using k2
    have hkk:∀k∈k0::ks,0<=k/\ k.toNat<rm.length/\ i<rankD nf (rm.getD k.toNat default):=by{intro k hm;obtain⟨j,hj,rfl⟩:=List.mem_iff_getElem.1 hm;have h1:=k3 j hj;rw[getD_dg _ _ _ hj]at h1;have h2:=h1.2.rank;exact⟨h1.1,h1.2.lt,by omega⟩}
    have hin:=innerD_made k1.made hi' (lo i) k0 ss ks hl hch hkk;have hme:=inner_means k1.made hi' k0 ss ks hl hch hkk (F:=F s) (G:=fun v=>F (giv i s v)) (fun j hj c fc=>(k3 j hj).2.means c fc) hF;obtain⟨q1,q2,⟨w,q3⟩,q4,_⟩:=hin;have hnode:NodeG nf lo hi F (innerD rm i (lo i::ss) (k0::ks)).1 i s (innerD rm i (lo i::ss) (k0::ks)).2:=⟨q2,q4,hme⟩;refine⟨⟨q1,?_,?_⟩,hnode,u++w,by show(innerD rm _ _ _).1=_;rw[q3,k4,List.append_assoc]⟩
    ·show ∀k,k<(innerD rm i (lo i::ss) (k0::ks)).1.length->_
     have hsame:=hme;unfold innerD at hsame⊢;simp only[]at hsame⊢
     split
     {exact k1.from_}
     ·next hne=>
      rw[if_neg hne]at hsame;exact from_addG k1.from_ (fun _=>⟨i,s,hR,rfl,hsame⟩)
    {intro i' s' k' hR' hlk';show NodeG nf lo hi F (innerD rm i (lo i::ss) (k0::ks)).1 i' s' k';have hlk':List.lookup (key i' s') ((key i s,(innerD rm i (lo i::ss) (k0::ks)).2)::rd)=some k':=hlk';rw[List.lookup_cons]at hlk';by_cases he:key i' s'=key i s;{rw[he]at hlk';simp only[beq_self_eq_true]at hlk';injection hlk' with e3;subst e3;obtain⟨e1,e2⟩:=hkey i' s' i s hR' hR he;subst e1;exact⟨hnode.lt,hnode.rank,fun c fc=>by rw[e2 c fc];exact hnode.means c fc⟩};{(have:(key i' s'==key i s)=false:=by simpa using he);rw[this]at hlk';rw[q3];exact(k1.memo i' s' k' hR' hlk').more w}}
end
def compD :Int->List Int->List Int
 | _,[]=>[]
 | a,b::l=>if b=a then compD a l else b::compD b l
theorem compD_chain {h:Int}:∀(l:List Int) (a:Int),(a::l).Pairwise (· <= ·)->(∀x∈l,x<=h)->chainI h a (compD a l)
 | [],_,_,_=>trivial
 | b::l,a,hp,hh=>by
  rw[List.pairwise_cons]at hp;have h1:=hp.1 b (List.mem_cons_self ..);unfold compD
  split
  ·next he=>
   subst he;exact compD_chain l b hp.2 fun x hx=>hh x (List.mem_cons_of_mem _ hx)
  ·next he=>
   exact⟨by omega,hh b (List.mem_cons_self ..),compD_chain l b hp.2 fun x hx=>hh x (List.mem_cons_of_mem _ hx)⟩
theorem compD_mem :∀(l:List Int) (a x:Int),x∈a::compD a l↔x∈a::l
 | [],_,_=>Iff.rfl
 | b::l,a,x=>by
  unfold compD
  split
  ·next he=>
   subst he;rw[compD_mem l b x]
   simp
  {have ih:=compD_mem l b x;rw[List.mem_cons,ih,List.mem_cons (a:=x) (b:=a)]}
theorem starts_chain {lo h:Int}{l:List Int}(hp:l.Pairwise (· <= ·))(hb:∀x∈l,lo<=x/\ x<=h)(hm:lo∈l):∃ls ss,l=lo::ls/\ ss=compD lo ls/\ chainI h lo ss/\ ∀x,x∈lo::ss↔x∈l:=by
 cases l with| nil=>simp at hm| cons a ls=>{have ha:a=lo:=by{have h1:=(hb a (List.mem_cons_self ..)).1;(rcases List.mem_cons.1 hm with h2 | h2);{exact h2.symm};{have:=(List.pairwise_cons.1 hp).1 lo h2;omega}};subst ha;exact⟨ls,_,rfl,rfl,compD_chain ls a hp fun x hx=>(hb x (List.mem_cons_of_mem _ hx)).2,compD_mem ls a⟩}
def prodL :List Nat->Nat
 | []=>1
 | x::l=>x*prodL l
def capG (P:Nat):Nat:=min P (2 ^ (400 / P))
def potH (P:Nat):Nat:=max (140-P) (if P<=133 then 8 else if P<=200 then 4 else 0)
theorem capG_le (P:Nat):capG P<=64:=by
 unfold capG;rcases Nat.lt_or_ge P 65 with h | h
 {exact Nat.le_trans (Nat.min_le_left _ _) (by omega)}
 ·have h2:400 / P<=6:=by
   have:400 / P<=400 / 65:=Nat.div_le_div_left h (by decide);exact Nat.le_trans this (by decide)
  exact Nat.le_trans (Nat.min_le_right _ _) (Nat.le_trans (Nat.pow_le_pow_right (by decide) h2) (by decide))
theorem potH_anti {P Q:Nat}(h:P<=Q):potH Q<=potH P:=by
 unfold potH
 repeat' split
 all_goals omega
theorem pot_all :∀P:Fin 201,1<=P.val->capG P.val+potH (2*P.val)<=potH P.val:=by decide+kernel
theorem pot_step {P Q:Nat}(h1:1<=P)(h2:2*P<=Q)(h3:P<=200):capG P+potH Q<=potH P:=
 Nat.le_trans (Nat.add_le_add_left (potH_anti h2) _) (pot_all ⟨P,by omega⟩ h1)
theorem prodL_pos :∀ {l:List Nat},(∀s∈l,1<=s)->1<=prodL l
 | [],_=>Nat.le_refl 1
 | x::l,h=>by{have h1:=h x (List.mem_cons_self ..);(have h2:=prodL_pos (l:=l) fun s hs=>h s (List.mem_cons_of_mem _ hs));exact Nat.mul_le_mul h1 h2}
def sumA :Nat->List Nat->Nat
 | _,[]=>0
 | P,s::l=>(if 1<s then capG P else 0)+sumA (P*s) l
theorem sumA_le :∀(l:List Nat) (P:Nat),1<=P->(∀s∈l,1<=s)->P*prodL l<=400->sumA P l<=potH P
 | [],_,_,_,_=>Nat.zero_le _
 | s::l,P,h1,h2,h3=>by{have hs:=h2 s (List.mem_cons_self ..);(have h4:∀s∈l,1<=s:=fun s hs=>h2 s (List.mem_cons_of_mem _ hs));(have h5:P*s*prodL l<=400:=by rw[Nat.mul_assoc];exact h3);have h6:P<=P*s:=Nat.le_mul_of_pos_right _ hs;have ih:=sumA_le l (P*s) (Nat.le_trans h1 h6) h4 h5;unfold sumA;by_cases h7:1<s;{rw[if_pos h7];have h8:P*s<=400:=Nat.le_trans (Nat.le_mul_of_pos_right _ (prodL_pos h4)) h5;(have h9:2*P<=P*s:=by rw[Nat.mul_comm 2];exact Nat.mul_le_mul_left _ h7);have h10:=pot_step h1 h9 (by omega);omega};{rw[if_neg h7];have:=potH_anti h6;omega}}
def pairsT :Nat->Nat->List (Nat×Nat)->Nat
 | _,_,[]=>0
 | P,Q,(s,t)::l=>(if 1<s\/1<t then capG P*capG Q else 0)+pairsT (P*s) (Q*t) l
theorem pairsT_le :∀(l:List (Nat×Nat)) (P Q:Nat),pairsT P Q l<=64*(sumA P (l.map Prod.fst)+sumA Q (l.map Prod.snd))
 | [],_,_=>Nat.zero_le _
 | (s,t)::l,P,Q=>by{have ih:=pairsT_le l (P*s) (Q*t);have hP:=capG_le P;have hQ:=capG_le Q;(have h1:capG P*capG Q<=64*capG P:=by rw[Nat.mul_comm 64];exact Nat.mul_le_mul_left _ hQ);have h2:capG P*capG Q<=64*capG Q:=Nat.mul_le_mul_right _ hP;simp only[pairsT,List.map_cons,sumA];by_cases hs:1<s<;>by_cases ht:1<t<;>simp[hs,ht]<;>omega}
theorem pairs_few (l:List (Nat×Nat))(h1:∀p∈l,1<=p.1/\ 1<=p.2)(h2:prodL (l.map Prod.fst)<=400)(h3:prodL (l.map Prod.snd)<=400):pairsT 1 1 l<=17792:=by
 have ha:=sumA_le (l.map Prod.fst) 1 (Nat.le_refl _) (by intro s hs;obtain⟨p,hp,rfl⟩:=List.mem_map.1 hs;exact(h1 p hp).1) (by omega);have hb:=sumA_le (l.map Prod.snd) 1 (Nat.le_refl _) (by intro s hs;obtain⟨p,hp,rfl⟩:=List.mem_map.1 hs;exact(h1 p hp).2) (by omega);have hc:=pairsT_le l 1 1;have hd:potH 1=139:=by decide
 omega
theorem nodup_lt :∀(n:Nat) (l:List Nat),l.Nodup->(∀x∈l,x<n)->l.length<=n
 | 0,l,_,h=>by cases l with| nil=>exact Nat.le_refl 0| cons x l=>exact absurd (h x (List.mem_cons_self ..)) (Nat.not_lt_zero x)
 | n+1,l,nd,h=>by
  have h1:=nodup_lt n (l.erase n) (nd.erase n) (by
   intro x hx
   have h2:=h x (List.mem_of_mem_erase hx)
   have h3:x≠n:=fun he=>by subst he;exact(List.Nodup.not_mem_erase nd) hx
   omega)
  have h2:l.length-1<=(l.erase n).length:=by{rw[List.length_erase];split<;>omega}
  omega
theorem nodup_map_inj {α β:Type}(f:α->β):∀(l:List α),l.Nodup->(∀x∈l,∀y∈l,f x=f y->x=y)->(l.map f).Nodup
 | [],_,_=>List.nodup_nil
 | a::l,nd,inj=>by{rw[List.nodup_cons]at nd;rw[List.map_cons,List.nodup_cons];refine⟨?_,nodup_map_inj f l nd.2 fun x hx y hy=>inj x (List.mem_cons_of_mem _ hx) y (List.mem_cons_of_mem _ hy)⟩;intro hm;obtain⟨y,hy,he⟩:=List.mem_map.1 hm;exact nd.1 (inj a (List.mem_cons_self ..) y (List.mem_cons_of_mem _ hy) he.symm▸hy)}
theorem count_codes {α:Type}(l:List α)(nd:l.Nodup)(code:α->Nat)(n:Nat)(inj:∀x∈l,∀y∈l,code x=code y->x=y)(h:∀x∈l,code x<n):l.length<=n:=by
 have:=nodup_lt n (l.map code) (nodup_map_inj code l nd inj) (by intro c hc;obtain⟨x,hx,rfl⟩:=List.mem_map.1 hc;exact h x hx)
 rwa[List.length_map]at this
def bitsN :List Bool->Nat
 | []=>0
 | b::l=>(if b then 1 else 0)+2*bitsN l
theorem bitsN_lt :∀l:List Bool,bitsN l<2 ^ l.length
 | []=>by decide
 | b::l=>by{have:=bitsN_lt l;simp only[bitsN,List.length_cons,Nat.pow_succ];split<;>omega}
theorem bitsN_inj :∀ {l k:List Bool},l.length=k.length->bitsN l=bitsN k->l=k
 | [],[],_,_=>rfl
 | [],_::_,h,_=>by simp at h
 | _::_,[],h,_=>by simp at h
 | a::l,b::k,h,e=>by{simp only[bitsN]at e;(have h1:l.length=k.length:=by simpa using h);(cases a<;>cases b<;>simp at e);{rw[bitsN_inj h1 (by omega)]};{omega};{omega};{rw[bitsN_inj h1 (by omega)]}}
section
variable {nf : Nat} {lo hi : Nat -> Int} {a b : List Dn} {A B : Nat -> (Nat -> Int) -> Bool}
theorem cap_codes {m:List Dn}(hm:Made nf lo hi m)(hd:∀i,i<nf->lo i<=hi i)(n:Nat)(C:Nat->Nat->Prop)
  (hC:∀k,k<m.length->(m.getD k default).kids≠[]->∃z,z<n/\ C k z)
  (hone:∀k k' z,k<m.length->k'<m.length->C k z->C k' z->∀c,fitsC nf lo hi c->readT m k c=readT m k' c):m.length<=n+2:=by
 have g:=hm.good hd
 have hex:∀k,∃z,k<m.length->(((m.getD k default).kids≠[]->2<=z/\ z<n+2/\ C k (z-2))/\ ((m.getD k default).kids=[]->z=if(m.getD k default).leaf then 1 else 0)):=by{intro k;by_cases hk:k<m.length;{by_cases h:(m.getD k default).kids=[];{exact⟨_,fun _=>⟨fun h'=>absurd h h',fun _=>rfl⟩⟩};{obtain⟨z,h1,h2⟩:=hC k hk h;exact⟨z+2,fun _=>⟨fun _=>⟨by omega,by omega,by simpa using h2⟩,fun h'=>absurd h' h⟩⟩}};{exact⟨0,fun h=>absurd h hk⟩}}
 have hcode:∃code:Nat->Nat,∀k,k<m.length->(((m.getD k default).kids≠[]->2<=code k/\ code k<n+2/\ C k (code k-2))/\ ((m.getD k default).kids=[]->code k=if(m.getD k default).leaf then 1 else 0)):=
  ⟨fun k=>Classical.choose (hex k),fun k=>Classical.choose_spec (hex k)⟩
 obtain⟨code,hcode⟩:=hcode;have:=count_codes (List.range m.length) List.nodup_range code (n+2) ?_ ?_
 {rwa[List.length_range]at this}
 {intro x hx y hy he;have hx:=List.mem_range.1 hx;have hy:=List.mem_range.1 hy;have cx:=hcode x hx;have cy:=hcode y hy;by_cases h1:(m.getD x default).kids=[];{have e1:=cx.2 h1;by_cases h2:(m.getD y default).kids=[];{have e2:=cy.2 h2;have p1:=(hm.table x hx).leaf h1;have p2:=(hm.table y hy).leaf h2;refine node_inj hm.nodup hx hy ?_;rw[e1,e2]at he;revert h1 h2 p1 p2 he;generalize m.getD x default=u;generalize m.getD y default=v;intro he h1 h2 p1 p2;(cases u;cases v);simp only at h1 h2 p1 p2 he;obtain⟨p1,p1'⟩:=p1;obtain⟨p2,p2'⟩:=p2;subst h1 h2 p1 p1' p2 p2';rename_i l1 l2;cases l1<;>cases l2<;>simp_all};{have e2:=cy.1 h2;split at e1<;>omega}};{have e1:=cx.1 h1;by_cases h2:(m.getD y default).kids=[];{have e2:=cy.2 h2;split at e2<;>omega};{have e2:=cy.1 h2;rw[he]at e1;exact g.one hx hy (hone x y _ hx hy e1.2.2 e2.2.2)}}}
 {intro x hx;have hx:=List.mem_range.1 hx;have cx:=hcode x hx;by_cases h1:(m.getD x default).kids=[];{have:=cx.2 h1;split at this<;>omega};{exact(cx.1 h1).2.1}}
theorem cap_pairs {R:Nat->Nat->Prop}{m:List Dn}{dn:MemoJ}(h:InvJ nf lo hi a b A B R m dn)(hd:∀i,i<nf->lo i<=hi i)(hR:∀x y,R x y->x<a.length/\ y<b.length):m.length<=a.length*b.length+2:=by
 refine cap_codes h.made hd _ (fun k z=>∃x y,x<a.length/\ y<b.length/\ z=x*b.length+y/\ ∀c,fitsC nf lo hi c->readT m k c=(A x c&& B y c)) ?_ ?_
 {intro k hk hkk;obtain⟨x,y,h1,_,h3⟩:=h.from_ k hk hkk;have h4:=hR x y h1;refine⟨x*b.length+y,?_,x,y,h4.1,h4.2,rfl,h3⟩;have:(x+1)*b.length<=a.length*b.length:=Nat.mul_le_mul_right _ h4.1;rw[Nat.add_mul]at this;omega}
 {rintro k k' z hk hk' ⟨x,y,h1,h2,h3,h4⟩ ⟨x',y',h1',h2',h3',h4'⟩ c fc;have hx:x=x':=by{have e:x*b.length+y=x'*b.length+y':=h3.symm.trans h3';(rcases Nat.lt_trichotomy x x' with h | h | h);{have:(x+1)*b.length<=x'*b.length:=Nat.mul_le_mul_right _ h;rw[Nat.add_mul]at this;omega};{exact h};{have:(x'+1)*b.length<=x*b.length:=Nat.mul_le_mul_right _ h;rw[Nat.add_mul]at this;omega}};subst hx;(have hy:y=y':=by omega);subst hy;rw[h4 c fc,h4' c fc]}
end
section
variable {nf : Nat} {lo hi : Nat -> Int} {t : List Dn}
def readW (t:List Dn):Nat->Nat->(Nat->Int)->Bool
 | 0,_,_=>false
 | f+1,k,c=>if(t.getD k default).kids=[]then(t.getD k default).leaf else readW t f (kidAt (t.getD k default) (c (t.getD k default).fact.toNat)).toNat c
theorem readW_fuel (hT:TableD nf lo hi t)(c:Nat->Int):∀(f g k:Nat),k<t.length->nf-rankD nf (t.getD k default)<f->nf-rankD nf (t.getD k default)<g->readW t f k c=readW t g k c:=by
 intro f
 induction f with| zero=>intro g k _ h;omega| succ f ih=>{intro g k hk hf hg;obtain⟨g,rfl⟩:∃g',g=g'+1:=⟨g-1,by omega⟩;unfold readW;by_cases h:(t.getD k default).kids=[];{rw[if_pos h,if_pos h]};{rw[if_neg h,if_neg h];have hm:=((hT k hk).inner h).2.2.2.2.2.2.2 _ (kidAt_mem (hT k hk) h (c (t.getD k default).fact.toNat));have h1:(t.getD k default).fact.toNat<rankD nf (t.getD (kidAt (t.getD k default) (c (t.getD k default).fact.toNat)).toNat default):=hm.2.2;(have h2:rankD nf (t.getD k default)=(t.getD k default).fact.toNat:=by unfold rankD;rw[if_neg h]);have h3:=rank_le_nf hT hm.2.1;exact ih g _ hm.2.1 (by omega) (by omega)}}
theorem readW_reads (hT:TableD nf lo hi t):ReadsD nf lo hi t (readW t (nf+1)):=by
 intro k hk c _;rw[readW_fuel hT c (nf+1) (nf+2) k hk (by omega) (by omega)]
 conv=>lhs;unfold readW
theorem table_good (hT:TableD nf lo hi t)(nd:t.Nodup)(hd:∀i,i<nf->lo i<=hi i):GoodT nf lo hi t (readW t (nf+1)):=⟨hT,readW_reads hT,nd,hd⟩
end
end Go.Proofs.YtihniipjfdenbaaGreatDoor
