/- RankSpecial: the statement: its row from the walk, the card from the row. No conditions. -/
import Derived.Test.YtmafmhlfjficmaaGreatDoorRankSpecialW
import Derived.Test.YtmafmhlfjficmaaGreatDoorRankSpecialF
set_option maxRecDepth 100000
namespace Go.Proofs.YtmafmhlfjficmaaGreatDoor
open Go Go.ChangeShapes Go.WideShapes Go.ChangeAt Go.RowKit
theorem rankSpecial_lifted (os:Os)(started:os.Started)(H:Type)(enc:TypeId×Value->H):
  ReturnsInHanded {} Tryz.checked os 8 .any (fun w args=>(Rows.rankSpecialSpec.pre enc Tryz.prog Tryz.f8 [] false w args/\ laidMetH Tryz.prog laid5 w)/\ sizedMet enc Tryz.prog Tryz.f8 (OpenSpec.ofChange Rows.rankSpecialSpec) false w args)
   (Rows.rankSpecialSpec.post enc Tryz.prog Tryz.f8 false true false false):=by
 refine returnsInHanded_of_change_and (C:=Tryz.checked) (X:=fun w _=>laidMetH Tryz.prog laid5 w) (fun _ _ _ hh h=>h.of_heap hh) own started (by kernel_rfl) Tryz.func8
  (rankSpecial_witness os enc) ?_
 intro W base args ds gs before hval0 hW _ _ hL _;have hval:∀(j:Nat) t v,Tryz.f8.params[j]? =some t->args[j]? =some v->Value.okWide Tryz.prog W .any base t v:=hval0;have hW':=hW;obtain⟨p,q,hA0,hV0,rfl,hfz,hnd⟩:=hW;have hA:DataW.TrodAll enc Tryz.prog W 0 (fun _=>true) true Tryz.f8.params.toList args.toList ds p:=hA0;rw[paramsRankSpecial]at hA hval;obtain⟨v0,v1,v2,v3,d0,d1,d2,d3,p0,p1,p2,p3,rfl,rfl,rfl,h0,h1,h2,h3⟩:=trodAll_four hA;obtain⟨rfl,rfl⟩:=trodVars_none hV0;have hlt:∀x∈p0++p1++p2++p3,x.block<W.heap.size:=fun x hx=>by simpa using hW'.lt x (by simpa using hx)
 obtain⟨fa0,pv0,ts0,a0⟩:=arg_lawT (hval 0 _ v0 rfl rfl) h0;obtain⟨n1,e1,a1⟩:=arg_int (hval 1 _ v1 rfl rfl) h1;subst e1;obtain⟨n2,e2,a2⟩:=arg_int (hval 2 _ v2 rfl rfl) h2;subst e2;obtain⟨l3,a3⟩:=arg_case (hval 3 _ v3 rfl rfl) h3;refine(rankSpecial_any W a0 a1 a2 a3 (tab_met hL)).mono ?_;rintro e W' ⟨rfl,hb⟩;refine⟨_,rfl,_,_,_,[],(p0++(p1++(p2++p3))),[],hW',?_,?_,?_,hb.frame _,fun h=>by cases h⟩
 ·rw[resultsRankSpecial];exact trodAll_mk1 (shut_bool Tryz.underlying4 _)
 ·rw[paramsRankSpecial];exact trodAll_mk4 (Below.trod laidOut (by kernel_rfl) (of_decide_eq_true (by kernel_rfl)) h0 hb (fun x hx=>hlt x (by simp[hx]))) (Below.trod laidOut (by kernel_rfl) (of_decide_eq_true (by kernel_rfl)) h1 hb (fun x hx=>hlt x (by simp[hx]))) (Below.trod laidOut (by kernel_rfl) (of_decide_eq_true (by kernel_rfl)) h2 hb (fun x hx=>hlt x (by simp[hx]))) (Below.trod laidOut (by kernel_rfl) (of_decide_eq_true (by kernel_rfl)) h3 hb (fun x hx=>hlt x (by simp[hx])))
 ·rfl
theorem rankSpecial_said :Rows.RankSpecialSaid:=
 OpenClaim.holds_of_wide 8 Tryz.f8 rfl rfl rfl rfl rfl rfl rfl ⟨rfl,rfl,rfl,rfl,rfl⟩ rfl rfl rfl rfl rfl rankSpecial_fn Tryz.func8 rankSpecial_facts
  rankSpecial_inst rankSpecial_wrap (fun os started H enc _=>rankSpecial_lifted os started H enc)
theorem rankSpecial_holds :Rows.RankSpecialCardSaid:=
 Claim7.holds_tied_plain_at .later [] [.data,.data,.data,.sentinel,.sentinel] true _ true
  rankSpecial_said (fun _ h=>by cases h) rankSpecial_text (fun _ h=>by cases h) rankSpecial_row_tie rfl ⟨rfl,rfl⟩ rankSpecial_main rfl rankSpecial_looks rankSpecial_goes
#print axioms rankSpecial_holds
end Go.Proofs.YtmafmhlfjficmaaGreatDoor
