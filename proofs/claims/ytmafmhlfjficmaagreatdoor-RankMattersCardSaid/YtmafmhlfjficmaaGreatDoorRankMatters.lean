/- RankMatters: the statement: its row from the walk, the card from the row. No conditions. -/
import Derived.Test.YtmafmhlfjficmaaGreatDoorRankMattersW
import Derived.Test.YtmafmhlfjficmaaGreatDoorRankMattersF
set_option maxRecDepth 100000
namespace Go.Proofs.YtmafmhlfjficmaaGreatDoor
open Go Go.ChangeShapes Go.WideShapes Go.ChangeAt Go.RowKit
theorem rankMatters_lifted (os:Os)(started:os.Started)(H:Type)(enc:TypeId×Value->H):
  ReturnsInHanded {} Tryz.checked os 7 .any (fun w args=>(Rows.rankMattersSpec.pre enc Tryz.prog Tryz.f7 [] false w args/\ laidMetH Tryz.prog laid5 w)/\ sizedMet enc Tryz.prog Tryz.f7 (OpenSpec.ofChange Rows.rankMattersSpec) false w args)
   (Rows.rankMattersSpec.post enc Tryz.prog Tryz.f7 false true false false):=by
 refine returnsInHanded_of_change_and (C:=Tryz.checked) (X:=fun w _=>laidMetH Tryz.prog laid5 w) (fun _ _ _ hh h=>h.of_heap hh) own started (by kernel_rfl) Tryz.func7
  (rankMatters_witness os enc) ?_
 intro W base args ds gs before hval0 hW _ _ hL _;have hval:∀(j:Nat) t v,Tryz.f7.params[j]? =some t->args[j]? =some v->Value.okWide Tryz.prog W .any base t v:=hval0;have hW':=hW;obtain⟨p,q,hA0,hV0,rfl,hfz,hnd⟩:=hW;have hA:DataW.TrodAll enc Tryz.prog W 0 (fun _=>true) true Tryz.f7.params.toList args.toList ds p:=hA0;rw[paramsRankMatters]at hA hval;obtain⟨v0,v1,v2,v3,d0,d1,d2,d3,p0,p1,p2,p3,rfl,rfl,rfl,h0,h1,h2,h3⟩:=trodAll_four hA;obtain⟨rfl,rfl⟩:=trodVars_none hV0;have hlt:∀x∈p0++p1++p2++p3,x.block<W.heap.size:=fun x hx=>by simpa using hW'.lt x (by simpa using hx)
 obtain⟨fa0,pv0,ts0,a0⟩:=arg_lawT (hval 0 _ v0 rfl rfl) h0;obtain⟨n1,e1,a1⟩:=arg_int (hval 1 _ v1 rfl rfl) h1;subst e1;obtain⟨n2,e2,a2⟩:=arg_int (hval 2 _ v2 rfl rfl) h2;subst e2;obtain⟨l3,a3⟩:=arg_strs (hval 3 _ v3 rfl rfl) h3;refine(rankMatters_any W a0 a1 a2 a3 (tab_met hL)).mono ?_;rintro e W' ⟨rfl,hb⟩;refine⟨_,rfl,_,_,_,[],(p0++(p1++(p2++p3))),[],hW',?_,?_,?_,hb.frame _,fun h=>by cases h⟩
 ·rw[resultsRankMatters];exact trodAll_mk1 (shut_bool Tryz.underlying4 _)
 ·rw[paramsRankMatters];exact trodAll_mk4 (Below.trod laidOut (by kernel_rfl) (of_decide_eq_true (by kernel_rfl)) h0 hb (fun x hx=>hlt x (by simp[hx]))) (Below.trod laidOut (by kernel_rfl) (of_decide_eq_true (by kernel_rfl)) h1 hb (fun x hx=>hlt x (by simp[hx]))) (Below.trod laidOut (by kernel_rfl) (of_decide_eq_true (by kernel_rfl)) h2 hb (fun x hx=>hlt x (by simp[hx]))) (Below.trod laidOut (by kernel_rfl) (of_decide_eq_true (by kernel_rfl)) h3 hb (fun x hx=>hlt x (by simp[hx])))
 ·rfl
theorem rankMatters_said :Rows.RankMattersSaid:=
 OpenClaim.holds_of_wide 7 Tryz.f7 rfl rfl rfl rfl rfl rfl rfl ⟨rfl,rfl,rfl,rfl,rfl⟩ rfl rfl rfl rfl rfl rankMatters_fn Tryz.func7 rankMatters_facts
  rankMatters_inst rankMatters_wrap (fun os started H enc _=>rankMatters_lifted os started H enc)
theorem rankMatters_holds :Rows.RankMattersCardSaid:=
 Claim7.holds_tied_plain_at .later [] [.data,.data,.data,.sentinel,.sentinel] true _ true
  rankMatters_said (fun _ h=>by cases h) rankMatters_text (fun _ h=>by cases h) rankMatters_row_tie rfl ⟨rfl,rfl⟩ rankMatters_main rfl rankMatters_looks rankMatters_goes
#print axioms rankMatters_holds
end Go.Proofs.YtmafmhlfjficmaaGreatDoor
