/- JudgeAnswers: the statement: its row from the walk, the card from the row. No conditions. -/
import Derived.Test.YtdipkbobalnilaaGreatDoorAl
import Derived.Test.YtdipkbobalnilaaGreatDoorJudgeAnswersW
import Derived.Test.YtdipkbobalnilaaGreatDoorJudgeAnswersF
set_option maxRecDepth 100000
namespace Go.Proofs.YtdipkbobalnilaaGreatDoor
open Go.Proofs.Tryz
open Go Go.ChangeShapes Go.WideShapes Go.ChangeAt Go.RowKit
theorem Ns(i:Os)(started:i.Started)(H:Type)(enc:TypeId×Ea->H):
  ReturnsInHanded {} Tryz.checked i 4 .any (λw args=>(Rows.judgeAnswersSpec.pre enc prog f4 [] false w args/\laidMetH prog iA w)/\sizedMet enc prog f4 (OpenSpec.ofChange Rows.judgeAnswersSpec) false w args)
   (Rows.judgeAnswersSpec.post enc prog f4 false true false false):=by
 refine returnsInHanded_of_change_and (C:=Tryz.checked) (X:=λw _=>laidMetH prog iA w) (λ_ _ _ I h=>h.of_heap I) own started Ha func4
  (pr i enc) ?_
 intro W base args B U before a o _ _ F _;have hval:∀(j:Nat) t v,f4.params[j]? =some t->args[j]? =some v->Value.okWide prog W .any base t v:=a;have c:=o;obtain⟨p,q,f,g,rfl,G,J⟩:=o;have n:DataW.TrodAll enc prog W 0 (λ_=>true) true f4.params.toList args.toList B p:=f;rw[qq]at n hval;obtain⟨M,N,O,R,S,T,r,s,u,rfl,rfl,rfl,k,l,m⟩:=trodAll_three n;obtain⟨rfl,rfl⟩:=trodVars_none g;have hlt:∀x∈r++s++u,x.block<W.heap.size:=λx b=>by simpa using c.lt x (by simpa using b)
 obtain⟨E,K,L,y,P⟩:=OS (hval 0 _ M rfl rfl) k;obtain⟨Y,D,z⟩:=LK (hval 1 _ N rfl rfl) l;subst D;obtain⟨V,A⟩:=QS (hval 2 _ O rfl rfl) m;refine(zu W y P z A (oW F)).mono ?_;rintro e Q ⟨rfl,d⟩;refine⟨_,rfl,_,_,_,[],(r++(s++u)),[],c,?_,?_,?_,d.frame _,λh=>by cases h⟩
 {rw[Ps];exact trodAll_mk1 (shut_bool Tryz.underlying4 _)}
 {rw[qq];exact trodAll_mk3 (Below.trod laidOut Ha (Uf Ha) k d (λx b=>hlt x (by simp[b]))) (Below.trod laidOut Ha (Uf Ha) l d (λx b=>hlt x (by simp[b]))) (Below.trod laidOut Ha (Uf Ha) m d (λx b=>hlt x (by simp[b])))}
 {rfl}
theorem Yt:Rows.JudgeAnswersSaid:=
 OpenClaim.holds_of_wide 4 f4 rfl rfl rfl rfl rfl rfl rfl ⟨rfl,rfl,rfl,rfl,rfl⟩ rfl rfl rfl rfl rfl nr func4 Nt
  nu vu (λa started H enc _=>Ns a started H enc)
theorem judgeAnswers_holds:Rows.JudgeAnswersCardSaid:=
 Claim7.holds_tied_plain_at .later [] [.data,.data,.data,.sentinel,.sentinel] true _ true
  Yt (λ_ h=>by cases h) wu (λ_ h=>by cases h) judgeAnswers_row_tie rfl ⟨rfl,rfl⟩ xu rfl Ot yu
#print axioms judgeAnswers_holds
end Go.Proofs.YtdipkbobalnilaaGreatDoor
