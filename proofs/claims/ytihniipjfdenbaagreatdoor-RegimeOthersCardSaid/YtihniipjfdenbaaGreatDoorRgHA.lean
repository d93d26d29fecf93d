/- The plain facts of law33's head: who governs, the gap of the example. No program. -/
import Derived.Test.YtihniipjfdenbaaGreatDoorRgPA
namespace Go.Proofs.YtihniipjfdenbaaGreatDoor
def ageF (c n:Int):Fo:=.mk 3 ageB c n []
def rgD :List Fa:=[⟨ageB,2,0,150⟩]
def oldB :ByteArray:=⟨#[111,108,100]⟩
def newB :ByteArray:=⟨#[110,101,119]⟩
def oldC :Chg:=⟨oldB,taxB,ageF 6 65,20,true⟩
def newC :Chg:=⟨newB,taxB,ageF 3 60,20,false⟩
def rgL :List Chg:=[oldC,newC]
def rgK :List Key:=[(taxB,20)]
theorem rg_keys :KeysOf rgL rgK:=by
 refine⟨fun k=>?_,List.pairwise_singleton ..⟩;simp only[rgK,rgL,List.mem_cons,List.not_mem_nil,or_false];constructor
 {rintro rfl;exact⟨oldC,.inl rfl,rfl⟩}
 {rintro⟨c,rfl | rfl,rfl⟩<;>rfl}
theorem rgD_valid :validD rgD=true:=by kernel_rfl
theorem rg_proper :properC rgD rgL=true:=by kernel_rfl
theorem gov_70 :govA rgD rgL rgK taxB 10 [70] 30=(19,0):=by kernel_rfl
theorem gov_30 :govA rgD rgL rgK taxB 10 [30] 30=(30,0):=by kernel_rfl
theorem gov_62 :govA rgD rgL rgK taxB 10 [62] 30=(0,11):=by kernel_rfl
theorem gov_20 :govA rgD rgL rgK taxB 20 [62] 30=(30,0):=by kernel_rfl
theorem ix_ageR :idxD rgD ageB=0:=by kernel_rfl
theorem len_rgD :rgD.length=1:=rfl
theorem built_rg {f:Fo}(hc:checkF f rgD (fun _=>false)=0)(hs:f.size<=3):BuiltB rgD f:=by
 refine built (dom_ok rgD_valid) (wf_check hc) ?_;have h0:=st_len (d:=rgD) 0 f
 show 1*(stD rgD 0 f).length<=19998
 omega
theorem build_rg {f:Fo}{t:List Dn}(hc:checkF f rgD (fun _=>false)=0)(hs:f.size<=3)(hl:(tstF f []).length<=24)(ht:validG rgD t=true)(hm:∀c:Nat->Int,0<=c 0->c 0<=150->readG rgD t 0 c=valC rgD c f):buildX rgD f=(t,0):=by
 have hb:=built_rg hc hs;rw[buildX_built rgD_valid hc hb];unfold buildD;rw[if_neg (by rw[rgD_valid,hc];simp),if_neg (by omega)];congr 1
 refine valid_same (built_valid rgD_valid (wf_check hc) hb) (valid_iff.1 ht) fun c fc=>?_
 rw[built_means rgD_valid (wf_check hc) hb fc];have f0:=fc 0 (by decide);exact(hm c f0.1 f0.2).symm
theorem and_rg {a b t:List Dn}(ha:validG rgD a=true)(hb:validG rgD b=true)(hl:a.length*b.length<=19998)(ht:validG rgD t=true)(hm:∀c:Nat->Int,0<=c 0->c 0<=150->readG rgD t 0 c=(readG rgD a 0 c&& readG rgD b 0 c)):andX rgD a b=(t,0):=by
 have va:=valid_iff.1 ha;have vb:=valid_iff.1 hb;have e:=andX_okay (andB_few va vb hl);have h0:(andX rgD a b).2=0:=by rw[e]
 obtain⟨_,_,vg,mg⟩:=andX_ok h0
 have e1:(andX rgD a b).1=t:=by{(refine valid_same vg (valid_iff.1 ht) fun c fc=>?_);have f0:=fc 0 (by decide);rw[mg c fc,hm c f0.1 f0.2]}
 rw[Prod.ext_iff];exact⟨e1,h0⟩
def trueT :List Dn:=[⟨0,[],[],true⟩]
def falseT :List Dn:=[⟨0,[],[],false⟩]
def oldT :List Dn:=[⟨0,[65],[1,2],false⟩,⟨0,[],[],false⟩,⟨0,[],[],true⟩]
def newT :List Dn:=[⟨0,[60],[1,2],false⟩,⟨0,[],[],true⟩,⟨0,[],[],false⟩]
def gapT :List Dn:=[⟨0,[60,65],[1,2,1],false⟩,⟨0,[],[],false⟩,⟨0,[],[],true⟩]
theorem true_v :validG rgD trueT=true:=by kernel_rfl
theorem false_v :validG rgD falseT=true:=by kernel_rfl
theorem old_v :validG rgD oldT=true:=by kernel_rfl
theorem new_v :validG rgD newT=true:=by kernel_rfl
theorem oldN_v :validG rgD (notD oldT)=true:=by kernel_rfl
theorem newN_v :validG rgD (notD newT)=true:=by kernel_rfl
theorem gap_v :validG rgD gapT=true:=by kernel_rfl
theorem true_build :buildX rgD trueF=(trueT,0):=build_rg (by kernel_rfl) (by decide) (by decide) true_v fun c h0 h1=>by
 simp[readG,readW,trueT,trueF,valC]
theorem oldC_build :buildX rgD oldC.cond=(oldT,0):=build_rg (by kernel_rfl) (by decide) (by decide) old_v fun c h0 h1=>by
 by_cases a:c 0<65
 {simp[readG,readW,oldT,oldC,kidAt,nextI,ageF,valC,ix_ageR,cmpB,List.findIdx,List.findIdx.go,len_rgD,a];try omega}
 {simp[readG,readW,oldT,oldC,kidAt,nextI,ageF,valC,ix_ageR,cmpB,List.findIdx,List.findIdx.go,len_rgD,a];try omega}
theorem newC_build :buildX rgD newC.cond=(newT,0):=build_rg (by kernel_rfl) (by decide) (by decide) new_v fun c h0 h1=>by
 by_cases a:c 0<60
 {simp[readG,readW,newT,newC,kidAt,nextI,ageF,valC,ix_ageR,cmpB,List.findIdx,List.findIdx.go,len_rgD,a];try omega}
 {simp[readG,readW,newT,newC,kidAt,nextI,ageF,valC,ix_ageR,cmpB,List.findIdx,List.findIdx.go,len_rgD,a];try omega}
theorem read_true (c:Nat->Int):readG rgD trueT 0 c=true:=by simp[readG,readW,trueT]
theorem and_oldN :andX rgD trueT (notD oldT)=(notD oldT,0):=and_rg true_v oldN_v (by decide) oldN_v fun c _ _=>by rw[read_true,Bool.true_and]
theorem and_newN :andX rgD trueT (notD newT)=(notD newT,0):=and_rg true_v newN_v (by decide) newN_v fun c _ _=>by rw[read_true,Bool.true_and]
theorem and_gap :andX rgD (notD oldT) (notD newT)=(gapT,0):=and_rg oldN_v newN_v (by decide) gap_v fun c h0 h1=>by
 by_cases a:c 0<60
 {(have b:c 0<65:=by omega);simp[readG,readW,notD,notN,oldT,newT,gapT,kidAt,nextI,List.findIdx,List.findIdx.go,len_rgD,a,b]}
 {by_cases b:c 0<65;{simp[readG,readW,notD,notN,oldT,newT,gapT,kidAt,nextI,List.findIdx,List.findIdx.go,len_rgD,a,b]};{simp[readG,readW,notD,notN,oldT,newT,gapT,kidAt,nextI,List.findIdx,List.findIdx.go,len_rgD,a,b]}}
theorem and_both :andX rgD (notD (notD oldT)) (notD (notD newT))=(falseT,0):=and_rg (by kernel_rfl) (by kernel_rfl) (by decide) false_v fun c h0 h1=>by
 by_cases a:c 0<60
 {(have b:c 0<65:=by omega);simp[readG,readW,notD,notN,oldT,newT,falseT,kidAt,nextI,List.findIdx,List.findIdx.go,len_rgD,a,b]}
 {by_cases b:c 0<65;{simp[readG,readW,notD,notN,oldT,newT,falseT,kidAt,nextI,List.findIdx,List.findIdx.go,len_rgD,a,b]};{simp[readG,readW,notD,notN,oldT,newT,falseT,kidAt,nextI,List.findIdx,List.findIdx.go,len_rgD,a,b]}}
theorem rg_step :stepR rgL (taxB,20)=rgL:=by
 unfold stepR;refine List.filter_eq_self.2 fun c hc=>?_
 rw[decide_eq_true_iff];rcases List.mem_cons.1 hc with rfl | hc
 {rfl}
 {(rcases List.mem_cons.1 hc with rfl | hc);{rfl};{cases hc}}
theorem rg_gap :gapX rgD rgL=(gapT,0):=by
 unfold gapX noneX;rw[if_pos rfl,true_build]
 show stpN rgD (stpN rgD (trueT,0) oldC.cond) newC.cond=_
 unfold stpN;simp only[if_true,oldC_build,newC_build,and_oldN,and_gap]
theorem rg_stay :stayX rgD rgL=(notD oldT,0):=by
 unfold stayX;rw[rg_gap];unfold noneX;rw[if_pos rfl,true_build]
 show stpN rgD (trueT,0) oldC.cond=_
 unfold stpN;simp only[if_true,oldC_build,and_oldN]
theorem rg_leave :leaveX rgD rgL=(notD newT,0):=by
 unfold leaveX;rw[rg_stay];unfold noneX;rw[if_pos rfl,true_build]
 show stpN rgD (trueT,0) newC.cond=_
 unfold stpN;simp only[if_true,newC_build,and_newN]
theorem rg_both :bothX rgD rgL=(falseT,0):=by
 unfold bothX;rw[rg_leave,rg_stay,if_pos rfl];exact and_both
def rgF :Fnd:=⟨1,taxB,20,[60],[oldB,newB]⟩
theorem ana_rg :anaA rgD rgL rgK=([rgF],0):=by
 unfold anaA;rw[if_pos rg_proper]
 show anaL rgD rgL [(taxB,20)] []=_
 rw[anaL,rg_step,rg_both,if_pos rfl,anaL];unfold findK repG;rw[rg_gap,rg_both,show leastG rgD gapT=some [60] by kernel_rfl,show leastG rgD falseT=none by kernel_rfl]
 rfl
end Go.Proofs.YtihniipjfdenbaaGreatDoor
