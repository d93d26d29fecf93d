/- RegimeOrder: the statement: its row from the walk, the card from the row. No conditions. -/
import Derived.Test.YtihniipjfdenbaaGreatDoorRegimeOrderW
import Derived.Test.YtihniipjfdenbaaGreatDoorRegimeOrderF
set_option maxRecDepth 100000
namespace Go.Proofs.YtihniipjfdenbaaGreatDoor
open Go Go.ChangeShapes Go.WideShapes Go.ChangeAt Go.RowKit
theorem regimeOrder_lifted (os:Os)(started:os.Started)(H:Type)(enc:TypeId×Value->H):
  ReturnsInHanded {} Tryz.checked os 8 .any (fun w args=>(Rows.regimeOrderSpec.pre enc Tryz.prog Tryz.f8 [] false w args/\ laidMetH Tryz.prog laid5 w)/\ sizedMet enc Tryz.prog Tryz.f8 (OpenSpec.ofChange Rows.regimeOrderSpec) false w args)
   (Rows.regimeOrderSpec.post enc Tryz.prog Tryz.f8 false true false false):=by
 refine returnsInHanded_of_change_and (C:=Tryz.checked) (X:=fun w _=>laidMetH Tryz.prog laid5 w) (fun _ _ _ hh h=>h.of_heap hh) own started (by kernel_rfl) Tryz.func8
  (regimeOrder_witness os enc) ?_
 intro W base args ds gs before hval0 hW _ _ hL _;have hval:∀(j:Nat) t v,Tryz.f8.params[j]? =some t->args[j]? =some v->Value.okWide Tryz.prog W .any base t v:=hval0;have hW':=hW;obtain⟨p,q,hA0,hV0,rfl,hfz,hnd⟩:=hW;have hA:DataW.TrodAll enc Tryz.prog W 0 (fun _=>true) true Tryz.f8.params.toList args.toList ds p:=hA0;rw[paramsRegimeOrder]at hA hval;obtain⟨v0,v1,d0,d1,p0,p1,rfl,rfl,rfl,h0,h1⟩:=trodAll_two hA;obtain⟨rfl,rfl⟩:=trodVars_none hV0;have hlt:∀x∈p0++p1,x.block<W.heap.size:=fun x hx=>by simpa using hW'.lt x (by simpa using hx)
 obtain⟨ll0,a0⟩:=arg_chs (hval 0 _ v0 rfl rfl) h0;obtain⟨dd1,a1⟩:=arg_dom (hval 1 _ v1 rfl rfl) h1;refine(regimeOrder_any W a0 a1 (tab_met hL)).mono ?_;rintro e W' ⟨rfl,hb⟩;refine⟨_,rfl,_,_,_,[],(p0++p1),[],hW',?_,?_,?_,hb.frame _,fun h=>by cases h⟩
 {rw[resultsRegimeOrder];exact trodAll_mk1 (shut_bool Tryz.underlying4 _)}
 {rw[paramsRegimeOrder];exact trodAll_mk2 (Below.trod laidOut (by kernel_rfl) (of_decide_eq_true (by kernel_rfl)) h0 hb (fun x hx=>hlt x (by simp[hx]))) (Below.trod laidOut (by kernel_rfl) (of_decide_eq_true (by kernel_rfl)) h1 hb (fun x hx=>hlt x (by simp[hx])))}
 {rfl}
theorem regimeOrder_said :Rows.RegimeOrderSaid:=
 OpenClaim.holds_of_wide 8 Tryz.f8 rfl rfl rfl rfl rfl rfl rfl ⟨rfl,rfl,rfl,rfl,rfl⟩ rfl rfl rfl rfl rfl regimeOrder_fn Tryz.func8 regimeOrder_facts
  regimeOrder_inst regimeOrder_wrap (fun os started H enc _=>regimeOrder_lifted os started H enc)
theorem regimeOrder_holds :Rows.RegimeOrderCardSaid:=
 Claim7.holds_tied_plain_at .later [] [.data,.data,.data,.sentinel,.sentinel] true _ true
  regimeOrder_said (fun _ h=>by cases h) regimeOrder_text (fun _ h=>by cases h) regimeOrder_row_tie rfl ⟨rfl,rfl⟩ regimeOrder_main rfl regimeOrder_looks regimeOrder_goes
#print axioms regimeOrder_holds
end Go.Proofs.YtihniipjfdenbaaGreatDoor
