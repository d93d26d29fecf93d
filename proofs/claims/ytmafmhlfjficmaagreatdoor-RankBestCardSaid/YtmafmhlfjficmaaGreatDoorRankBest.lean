/- RankBest: the statement: its row from the walk, the card from the row. No conditions. -/
import Derived.Test.YtmafmhlfjficmaaGreatDoorRankBestW
import Derived.Test.YtmafmhlfjficmaaGreatDoorRankBestF
set_option maxRecDepth 100000
namespace Go.Proofs.YtmafmhlfjficmaaGreatDoor
open Go Go.ChangeShapes Go.WideShapes Go.ChangeAt Go.RowKit
theorem rankBest_lifted (os:Os)(started:os.Started)(H:Type)(enc:TypeId×Value->H):
  ReturnsInHanded {} Tryz.checked os 6 .any (fun w args=>(Rows.rankBestSpec.pre enc Tryz.prog Tryz.f6 [] false w args/\ laidMetH Tryz.prog laid5 w)/\ sizedMet enc Tryz.prog Tryz.f6 (OpenSpec.ofChange Rows.rankBestSpec) false w args)
   (Rows.rankBestSpec.post enc Tryz.prog Tryz.f6 false true false false):=by
 refine returnsInHanded_of_change_and (C:=Tryz.checked) (X:=fun w _=>laidMetH Tryz.prog laid5 w) (fun _ _ _ hh h=>h.of_heap hh) own started (by kernel_rfl) Tryz.func6
  (rankBest_witness os enc) ?_
 intro W base args ds gs before hval0 hW _ _ hL _;have hval:∀(j:Nat) t v,Tryz.f6.params[j]? =some t->args[j]? =some v->Value.okWide Tryz.prog W .any base t v:=hval0;have hW':=hW;obtain⟨p,q,hA0,hV0,rfl,hfz,hnd⟩:=hW;have hA:DataW.TrodAll enc Tryz.prog W 0 (fun _=>true) true Tryz.f6.params.toList args.toList ds p:=hA0;rw[paramsRankBest]at hA hval;obtain⟨v0,v1,d0,d1,p0,p1,rfl,rfl,rfl,h0,h1⟩:=trodAll_two hA;obtain⟨rfl,rfl⟩:=trodVars_none hV0;have hlt:∀x∈p0++p1,x.block<W.heap.size:=fun x hx=>by simpa using hW'.lt x (by simpa using hx)
 obtain⟨fa0,pv0,ts0,a0⟩:=arg_lawT (hval 0 _ v0 rfl rfl) h0;obtain⟨l1,a1⟩:=arg_strs (hval 1 _ v1 rfl rfl) h1;refine(rankBest_any W a0 a1 (tab_met hL)).mono ?_;rintro e W' ⟨rfl,hb⟩;refine⟨_,rfl,_,_,_,[],(p0++p1),[],hW',?_,?_,?_,hb.frame _,fun h=>by cases h⟩
 ·rw[resultsRankBest];exact trodAll_mk1 (shut_bool Tryz.underlying4 _)
 ·rw[paramsRankBest];exact trodAll_mk2 (Below.trod laidOut (by kernel_rfl) (of_decide_eq_true (by kernel_rfl)) h0 hb (fun x hx=>hlt x (by simp[hx]))) (Below.trod laidOut (by kernel_rfl) (of_decide_eq_true (by kernel_rfl)) h1 hb (fun x hx=>hlt x (by simp[hx])))
 ·rfl
theorem rankBest_said :Rows.RankBestSaid:=
 OpenClaim.holds_of_wide 6 Tryz.f6 rfl rfl rfl rfl rfl rfl rfl ⟨rfl,rfl,rfl,rfl,rfl⟩ rfl rfl rfl rfl rfl rankBest_fn Tryz.func6 rankBest_facts
  rankBest_inst rankBest_wrap (fun os started H enc _=>rankBest_lifted os started H enc)
theorem rankBest_holds :Rows.RankBestCardSaid:=
 Claim7.holds_tied_plain_at .later [] [.data,.data,.data,.sentinel,.sentinel] true _ true
  rankBest_said (fun _ h=>by cases h) rankBest_text (fun _ h=>by cases h) rankBest_row_tie rfl ⟨rfl,rfl⟩ rankBest_main rfl rankBest_looks rankBest_goes
#print axioms rankBest_holds
end Go.Proofs.YtmafmhlfjficmaaGreatDoor
