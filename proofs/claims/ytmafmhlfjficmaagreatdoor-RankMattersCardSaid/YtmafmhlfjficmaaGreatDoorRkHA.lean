/- The plain facts of law15's head: who prevails in the chapter's example. No program. -/
import Derived.Test.YtmafmhlfjficmaaGreatDoorDgGP
import Derived.Test.YtmafmhlfjficmaaGreatDoorDgVH
import Derived.Test.YtmafmhlfjficmaaGreatDoorDgLs
import Derived.Test.YtmafmhlfjficmaaGreatDoorDgBP
import Derived.Test.YtmafmhlfjficmaaGreatDoorRkPA
namespace Go.Proofs.YtmafmhlfjficmaaGreatDoor
section
def ageF (c n:Int):Fo:=.mk 3 ageB c n []
theorem dH_valid :validD dH=true:=by kernel_rfl
theorem built_dH {f:Fo}(hc:checkF f dH (fun _=>false)=0)(hs:f.size<=3):BuiltB dH f:=by
 refine built (dom_ok dH_valid) (wf_check hc) ?_;have h0:=st_len (d:=dH) 0 f;have h1:=st_len (d:=dH) 1 f
 show 1*(stD dH 0 f).length*(stD dH 1 f).length<=19998
 have:(stD dH 0 f).length*(stD dH 1 f).length<=7*7:=Nat.mul_le_mul (by omega) (by omega);rw[Nat.one_mul];omega
theorem build_dH {f:Fo}{t:List Dn}(hc:checkF f dH (fun _=>false)=0)(hs:f.size<=3)(hl:(tstF f []).length<=24)(ht:validG dH t=true)(hm:∀c:Nat->Int,0<=c 0->c 0<=150->0<=c 1->c 1<=1->readG dH t 0 c=valC dH c f):buildD dH f=(t,0):=by
 have hb:=built_dH hc hs;unfold buildD;rw[if_neg (by rw[dH_valid,hc];simp),if_neg (by omega)];congr 1
 refine valid_same (built_valid dH_valid (wf_check hc) hb) (valid_iff.1 ht) fun c fc=>?_
 rw[built_means dH_valid (wf_check hc) hb fc];have f0:=fc 0 (by decide);have f1:=fc 1 (by decide);exact(hm c f0.1 f0.2 f1.1 f1.2).symm
theorem len_dH :dH.length=2:=rfl
theorem ix_age :idxD dH ageB=0:=by kernel_rfl
theorem ix_mem :idxD dH memB=1:=by kernel_rfl
end
section
def atF (n:Int):Fo:=.mk 3 memB 6 n []
def condH (i:Nat):Fo:=[ageF 6 18,ageF 6 20,ageF 6 18,ageF 6 18,atF 1].getD i (ageF 6 18)
def rankH (i:Nat):Int:=[1,2,2,2,2].getD i 2
def timeH (i:Nat):Int:=[0,50,10,20,30].getD i 0
def cutT (k c:Int):List Dn:=[⟨k,[c],[1,2],false⟩,⟨0,[],[],false⟩,⟨0,[],[],true⟩]
structure SmallH (f : Fo) : Prop where
 check:checkF f dH (fun _=>false)=0
 built:(buildX dH f).2=0
 len:(buildX dH f).1.length<=3
theorem small_of {f:Fo}{t:List Dn}(hc:checkF f dH (fun _=>false)=0)(hs:f.size<=3)(h:buildD dH f=(t,0))(ht:t.length<=3):SmallH f:=by
 have e:=buildX_built dH_valid hc (built_dH hc hs);exact⟨hc,by rw[e,h],by rw[e,h];exact ht⟩
theorem age_small (n:Int)(hc:checkF (ageF 6 n) dH (fun _=>false)=0)(hv:validG dH (cutT 0 n)=true):SmallH (ageF 6 n):=by
 refine small_of (t:=cutT 0 n) hc (by simp[ageF,Fo.size,Fo.sizeL]) (build_dH hc (by simp[ageF,Fo.size,Fo.sizeL]) (by simp[ageF,tstF,tstL,ins]) hv fun c h0 h1 h2 h3=>?_) (by simp[cutT]);by_cases a:c 0<n
 ·simp[readG,readW,cutT,kidAt,nextI,ageF,valC,ix_age,cmpB,List.findIdx,List.findIdx.go,len_dH,a]
  try omega
 ·simp[readG,readW,cutT,kidAt,nextI,ageF,valC,ix_age,cmpB,List.findIdx,List.findIdx.go,len_dH,a]
  try omega
theorem mem_small :SmallH (atF 1):=by
 have hc:checkF (atF 1) dH (fun _=>false)=0:=by kernel_rfl
 refine small_of (t:=cutT 1 1) hc (by decide) (build_dH hc (by decide) (by decide) (by kernel_rfl) fun c h0 h1 h2 h3=>?_) (by decide);by_cases a:c 1<1
 ·simp[readG,readW,cutT,kidAt,nextI,atF,valC,ix_mem,cmpB,List.findIdx,List.findIdx.go,len_dH,a]
  try omega
 ·simp[readG,readW,cutT,kidAt,nextI,atF,valC,ix_mem,cmpB,List.findIdx,List.findIdx.go,len_dH,a]
  try omega
theorem cond_small (i:Nat):SmallH (condH i):=by
 have h18:SmallH (ageF 6 18):=age_small 18 (by kernel_rfl) (by kernel_rfl);have h20:SmallH (ageF 6 20):=age_small 20 (by kernel_rfl) (by kernel_rfl)
 match i with
 | 0=>exact h18
 | 1=>exact h20
 | 2=>exact h18
 | 3=>exact h18
 | 4=>exact mem_small
 | i+5=>exact h18
theorem alone_err (a b:Nat):(aloneD dH condH a b).2=0:=by
 have ha:=cond_small a;have hb:=cond_small b;unfold aloneD;rw[if_pos ha.built,if_pos hb.built];obtain⟨va,_⟩:=buildX_ok ha.built;obtain⟨vb,_⟩:=buildX_ok hb.built;obtain⟨vn,_⟩:=not_valid vb;have hl:(notD (buildX dH (condH b)).1).length=(buildX dH (condH b)).1.length:=by unfold notD;rw[List.length_map]
 have h:(andX dH (buildX dH (condH a)).1 (notD (buildX dH (condH b)).1)).2=0:=by
  rw[andX_okay (andB_few va vn (by
   rw[hl]
   have:=Nat.mul_le_mul ha.len hb.len
   omega))]
 unfold aloneX;rw[if_pos h]
theorem spec_err (a b:Nat):(specD dH condH a b).2.2=0:=by
 unfold specD;rw[if_pos (alone_err a b),if_pos (alone_err b a)]
theorem val_age (n:Int)(c:Nat->Int):valC dH c (ageF 6 n)=decide (n<=c 0):=by
 simp[ageF,valC,ix_age,cmpB]
theorem val_at (n:Int)(c:Nat->Int):valC dH c (atF n)=decide (n<=c 1):=by
 simp[atF,valC,ix_mem,cmpB]
theorem fits_H {x y:Int}(h0:0<=x)(h1:x<=150)(h2:0<=y)(h3:y<=1):fitsC dH.length (flo dH) (fhi dH) (fun i=>if i=0 then x else y):=by
 intro i hi;have hi:i<2:=hi
 match i,hi with
 | 0,_=>exact⟨h0,h1⟩
 | 1,_=>exact⟨h2,h3⟩
theorem sub_age {m n:Int}(hm:0<=m)(hm2:m<=150):SubD dH (ageF 6 m) (ageF 6 n)↔n<=m:=by
 constructor
 ·intro h
  have:=h (fun i=>if i=0 then m else 0) (fits_H hm hm2 (by decide) (by decide)) (by rw[val_age];simp);rw[val_age]at this
  simpa using this
 ·intro h c _ hc
  rw[val_age]at hc⊢;simp at hc⊢;omega
theorem sub_am {m:Int}(hm:0<=m)(hm2:m<=150):¬SubD dH (ageF 6 m) (atF 1):=by
 intro h;have:=h (fun i=>if i=0 then m else 0) (fits_H hm hm2 (by decide) (by decide)) (by rw[val_age];simp);rw[val_at]at this;simp at this
theorem sub_ma {m:Int}(hm:1<=m):¬SubD dH (atF 1) (ageF 6 m):=by
 intro h;have:=h (fun i=>if i=0 then 0 else 1) (fits_H (by decide) (by decide) (by decide) (by decide)) (by rw[val_at];simp);rw[val_age]at this;simp at this;omega
def whyH (a b:Nat):Int×Int:=whyD dH condH rankH timeH a b
theorem why_rank {a b:Nat}(h:rankH a<rankH b):whyH a b=(1,0):=by unfold whyH whyD;rw[if_pos h]
theorem why_not {a b:Nat}(h:rankH b<rankH a):whyH a b=(0,0):=by unfold whyH whyD;rw[if_neg (by omega),if_pos h]
theorem why_same {a b:Nat}(h:rankH a=rankH b):whyH a b=if(specD dH condH a b).1=true then(2,0)else if(specD dH condH a b).2.1=true/\ timeH b<timeH a then(3,0)else(0,0):=by
 unfold whyH whyD;rw[if_neg (by omega),if_neg (by omega),if_pos (spec_err a b)]
theorem why_more {a b:Nat}(h:rankH a=rankH b)(h1:SubD dH (condH a) (condH b))(h2:¬SubD dH (condH b) (condH a)):whyH a b=(2,0):=by
 rw[why_same h,if_pos ((spec_iff (spec_err a b)).1.2 ⟨h1,h2⟩)]
theorem why_late {a b:Nat}(h:rankH a=rankH b)(h1:SubD dH (condH a) (condH b))(h2:SubD dH (condH b) (condH a))(h3:timeH b<timeH a):whyH a b=(3,0):=by
 rw[why_same h,if_neg (fun e=>((spec_iff (spec_err a b)).1.1 e).2 h2),if_pos ⟨(spec_iff (spec_err a b)).2.2 ⟨h1,h2⟩,h3⟩]
theorem why_else {a b:Nat}(h:rankH a=rankH b)(h1:¬SubD dH (condH a) (condH b)):whyH a b=(0,0):=by
 rw[why_same h,if_neg (fun e=>h1 ((spec_iff (spec_err a b)).1.1 e).1),if_neg (fun e=>h1 ((spec_iff (spec_err a b)).2.1 e.1).1)]
theorem why_early {a b:Nat}(h:rankH a=rankH b)(h2:SubD dH (condH b) (condH a))(h3:timeH a<=timeH b):whyH a b=(0,0):=by
 rw[why_same h,if_neg (fun e=>((spec_iff (spec_err a b)).1.1 e).2 h2),if_neg (fun e=>by omega)]
theorem spec10 :(specD dH condH 1 0).1=true:=(spec_iff (spec_err 1 0)).1.2 ⟨(sub_age (m:=20) (n:=18) (by decide) (by decide)).2 (by decide),fun h=>absurd ((sub_age (m:=18) (n:=20) (by decide) (by decide)).1 h) (by decide)⟩
theorem why01 :whyH 0 1=(1,0):=why_rank (by decide)
theorem why10 :whyH 1 0=(0,0):=why_not (by decide)
theorem why12 :whyH 1 2=(2,0):=why_more rfl ((sub_age (m:=20) (n:=18) (by decide) (by decide)).2 (by decide)) (fun h=>absurd ((sub_age (m:=18) (n:=20) (by decide) (by decide)).1 h) (by decide))
theorem sub18 :SubD dH (ageF 6 18) (ageF 6 18):=SubD.refl _
theorem why32 :whyH 3 2=(3,0):=why_late rfl sub18 sub18 (by decide)
theorem why23 :whyH 2 3=(0,0):=why_early rfl sub18 (by decide)
theorem why42 :whyH 4 2=(0,0):=why_else rfl (sub_ma (by decide))
theorem why43 :whyH 4 3=(0,0):=why_else rfl (sub_ma (by decide))
theorem why24 :whyH 2 4=(0,0):=why_else rfl (sub_am (by decide) (by decide))
theorem why34 :whyH 3 4=(0,0):=why_else rfl (sub_am (by decide) (by decide))
theorem why_err (a b:Nat):(whyH a b).2=0:=by
 unfold whyH whyD
 split
 ·rfl
 ·split
  ·rfl
  ·rw[if_pos (spec_err a b)]
   split
   ·rfl
   ·split<;>rfl
def askH (l:List Nat)(i:Nat):Bool:=l.contains i
theorem best_cde :bestW whyH (askH [4,3,2,4]) 5 (List.range 5) []=([3,4],0):=by
 have e:List.range 5=[0,1,2,3,4]:=rfl;rw[e];simp[bestW,beatW,askH,e,why32,why23,why42,why43,why24,why34]
theorem best_all5 :bestW whyH (askH [0,1,2,3,4]) 5 (List.range 5) []=([0],0):=by
 have h0:(bestW whyH (askH [0,1,2,3,4]) 5 (List.range 5) []).2=0:=by
  have hb:∀(a:Nat) (l:List Nat) (is:Bool),(beatW whyH (askH [0,1,2,3,4]) a l is).2=0:=by
   intro a l
   induction l with
   | nil=>intro is;rfl
   | cons b l ih=>
    intro is;rw[beatW]
    split
    ·rw[if_pos (why_err b a)];exact ih _
    ·exact ih _
  have:∀(l out:List Nat),(bestW whyH (askH [0,1,2,3,4]) 5 l out).2=0:=by
   intro l
   induction l with
   | nil=>intro out;rfl
   | cons a l ih=>
    intro out;rw[bestW]
    split
    ·rw[if_pos (hb a _ _)];exact ih _
    ·exact ih _
  exact this _ _
 have hk:=best_ok h0
 have hm:∀a,a∈(bestW whyH (askH [0,1,2,3,4]) 5 (List.range 5) []).1↔a=0:=by
  intro a;rw[hk.mem];constructor
  ·rintro⟨h1,_,h2⟩
   rcases Nat.eq_zero_or_pos a with h | h
   ·exact h
   ·exfalso
    refine h2 0 (by decide) (by decide) (by omega) ?_
    rw[why_rank (a:=0) (b:=a) (by
     match a,h1,h with
     | 1,_,_=>decide
     | 2,_,_=>decide
     | 3,_,_=>decide
     | 4,_,_=>decide)]
    decide
  ·rintro rfl
   refine⟨by decide,by decide,fun b hb _ hne hp=>?_⟩
   rw[why_not (a:=b) (b:=0) (by
    match b,hb,hne with
    | 1,_,_=>decide
    | 2,_,_=>decide
    | 3,_,_=>decide
    | 4,_,_=>decide)]at hp
   exact absurd hp (by decide)
 have ho:=hk.order;generalize bestW whyH (askH [0,1,2,3,4]) 5 (List.range 5) []=r at*
 obtain⟨l,e⟩:=r;simp only at h0 hm ho;subst h0;congr 1
 match l with
 | []=>exact absurd ((hm 0).2 rfl) (by simp)
 | [x]=>rw[(hm x).1 (by simp)]
 | x::y::l=>
  have hx:=(hm x).1 (by simp);have hy:=(hm y).1 (by simp);have:=(List.pairwise_cons.1 ho).1 y (by simp);omega
end
end Go.Proofs.YtmafmhlfjficmaaGreatDoor
