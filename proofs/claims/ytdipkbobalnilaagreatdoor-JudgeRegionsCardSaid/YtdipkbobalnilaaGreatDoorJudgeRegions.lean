/- JudgeRegions: the statement: its row from the walk, the card from the row. No conditions. -/
import Derived.Test.YtdipkbobalnilaaGreatDoorAl
import Derived.Test.YtdipkbobalnilaaGreatDoorJudgeRegionsW
import Derived.Test.YtdipkbobalnilaaGreatDoorJudgeRegionsF
set_option maxRecDepth 100000
namespace Go.Proofs.YtdipkbobalnilaaGreatDoor
open Go.Proofs.Tryz
open Go Go.ChangeShapes Go.WideShapes Go.ChangeAt Go.RowKit
theorem nr(i:Os)(started:i.Started)(H:Type)(enc:TypeId×Ea->H):
  ReturnsInHanded {} Tryz.checked i 5 .any (λw args=>(Rows.judgeRegionsSpec.pre enc prog f5 [] false w args/\laidMetH prog iA w)/\sizedMet enc prog f5 (OpenSpec.ofChange Rows.judgeRegionsSpec) false w args)
   (Rows.judgeRegionsSpec.post enc prog f5 false true false false):=by
 refine returnsInHanded_of_change_and (C:=Tryz.checked) (X:=λw _=>laidMetH prog iA w) (λ_ _ _ I h=>h.of_heap I) own started Ha func5
  (xq i enc) ?_
 intro W base args B U before a o _ _ F _;have hval:∀(j:Nat) t v,f5.params[j]? =some t->args[j]? =some v->Value.okWide prog W .any base t v:=a;have c:=o;obtain⟨p,q,f,g,rfl,G,J⟩:=o;have n:DataW.TrodAll enc prog W 0 (λ_=>true) true f5.params.toList args.toList B p:=f;rw[ej]at n hval;obtain⟨M,N,O,R,S,T,r,s,u,rfl,rfl,rfl,k,l,m⟩:=trodAll_three n;obtain⟨rfl,rfl⟩:=trodVars_none g;have hlt:∀x∈r++s++u,x.block<W.heap.size:=λx b=>by simpa using c.lt x (by simpa using b)
 obtain⟨E,K,L,y,P⟩:=OS (hval 0 _ M rfl rfl) k;obtain⟨Y,D,z⟩:=LK (hval 1 _ N rfl rfl) l;subst D;obtain⟨V,A⟩:=QS (hval 2 _ O rfl rfl) m;refine(Yv W y P z A (oW F)).mono ?_;rintro e Q ⟨rfl,d⟩;refine⟨_,rfl,_,_,_,[],(r++(s++u)),[],c,?_,?_,?_,d.frame _,λh=>by cases h⟩
 {rw[pr];exact trodAll_mk1 (shut_bool Tryz.underlying4 _)}
 {rw[ej];exact trodAll_mk3 (Below.trod laidOut Ha (Uf Ha) k d (λx b=>hlt x (by simp[b]))) (Below.trod laidOut Ha (Uf Ha) l d (λx b=>hlt x (by simp[b]))) (Below.trod laidOut Ha (Uf Ha) m d (λx b=>hlt x (by simp[b])))}
 {rfl}
theorem vu:Rows.JudgeRegionsSaid:=
 OpenClaim.holds_of_wide 5 f5 rfl rfl rfl rfl rfl rfl rfl ⟨rfl,rfl,rfl,rfl,rfl⟩ rfl rfl rfl rfl rfl ep func5 Ns
  wu xu (λa started H enc _=>nr a started H enc)
theorem judgeRegions_holds:Rows.JudgeRegionsCardSaid:=
 Claim7.holds_tied_plain_at .later [] [.data,.data,.data,.sentinel,.sentinel] true _ true
  vu (λ_ h=>by cases h) yu (λ_ h=>by cases h) judgeRegions_row_tie rfl ⟨rfl,rfl⟩ zu rfl Ps Au
#print axioms judgeRegions_holds
end Go.Proofs.YtdipkbobalnilaaGreatDoor
