/- RegimeFinds: the statement: its row from the walk, the card from the row. No conditions. -/
import Derived.Test.YtihniipjfdenbaaGreatDoorRegimeFindsW
import Derived.Test.YtihniipjfdenbaaGreatDoorRegimeFindsF
set_option maxRecDepth 100000
namespace Go.Proofs.YtihniipjfdenbaaGreatDoor
open Go Go.ChangeShapes Go.WideShapes Go.ChangeAt Go.RowKit
theorem regimeFinds_lifted (os:Os)(started:os.Started)(H:Type)(enc:TypeId×Value->H):
  ReturnsInHanded {} Tryz.checked os 4 .any (fun w args=>(Rows.regimeFindsSpec.pre enc Tryz.prog Tryz.f4 [] false w args/\ laidMetH Tryz.prog laid5 w)/\ sizedMet enc Tryz.prog Tryz.f4 (OpenSpec.ofChange Rows.regimeFindsSpec) false w args)
   (Rows.regimeFindsSpec.post enc Tryz.prog Tryz.f4 false true false false):=by
 refine returnsInHanded_of_change_and (C:=Tryz.checked) (X:=fun w _=>laidMetH Tryz.prog laid5 w) (fun _ _ _ hh h=>h.of_heap hh) own started (by kernel_rfl) Tryz.func4
  (regimeFinds_witness os enc) ?_
 intro W base args ds gs before hval0 hW _ _ hL _;have hval:∀(j:Nat) t v,Tryz.f4.params[j]? =some t->args[j]? =some v->Value.okWide Tryz.prog W .any base t v:=hval0;have hW':=hW;obtain⟨p,q,hA0,hV0,rfl,hfz,hnd⟩:=hW;have hA:DataW.TrodAll enc Tryz.prog W 0 (fun _=>true) true Tryz.f4.params.toList args.toList ds p:=hA0;rw[paramsRegimeFinds]at hA hval;obtain⟨v0,v1,d0,d1,p0,p1,rfl,rfl,rfl,h0,h1⟩:=trodAll_two hA;obtain⟨rfl,rfl⟩:=trodVars_none hV0;have hlt:∀x∈p0++p1,x.block<W.heap.size:=fun x hx=>by simpa using hW'.lt x (by simpa using hx)
 obtain⟨ll0,a0⟩:=arg_chs (hval 0 _ v0 rfl rfl) h0;obtain⟨dd1,a1⟩:=arg_dom (hval 1 _ v1 rfl rfl) h1;refine(regimeFinds_any W a0 a1 (tab_met hL)).mono ?_;rintro e W' ⟨rfl,hb⟩;refine⟨_,rfl,_,_,_,[],(p0++p1),[],hW',?_,?_,?_,hb.frame _,fun h=>by cases h⟩
 ·rw[resultsRegimeFinds];exact trodAll_mk1 (shut_bool Tryz.underlying4 _)
 ·rw[paramsRegimeFinds];exact trodAll_mk2 (Below.trod laidOut (by kernel_rfl) (of_decide_eq_true (by kernel_rfl)) h0 hb (fun x hx=>hlt x (by simp[hx]))) (Below.trod laidOut (by kernel_rfl) (of_decide_eq_true (by kernel_rfl)) h1 hb (fun x hx=>hlt x (by simp[hx])))
 ·rfl
theorem regimeFinds_said :Rows.RegimeFindsSaid:=
 OpenClaim.holds_of_wide 4 Tryz.f4 rfl rfl rfl rfl rfl rfl rfl ⟨rfl,rfl,rfl,rfl,rfl⟩ rfl rfl rfl rfl rfl regimeFinds_fn Tryz.func4 regimeFinds_facts
  regimeFinds_inst regimeFinds_wrap (fun os started H enc _=>regimeFinds_lifted os started H enc)
theorem regimeFinds_holds :Rows.RegimeFindsCardSaid:=
 Claim7.holds_tied_plain_at .later [] [.data,.data,.data,.sentinel,.sentinel] true _ true
  regimeFinds_said (fun _ h=>by cases h) regimeFinds_text (fun _ h=>by cases h) regimeFinds_row_tie rfl ⟨rfl,rfl⟩ regimeFinds_main rfl regimeFinds_looks regimeFinds_goes
#print axioms regimeFinds_holds
end Go.Proofs.YtihniipjfdenbaaGreatDoor
