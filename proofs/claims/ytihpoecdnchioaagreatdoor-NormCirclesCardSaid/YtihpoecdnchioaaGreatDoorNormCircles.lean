/- NormCircles: the statement: its row from the walk, the card from the row. No conditions. -/
import Derived.Test.YtihpoecdnchioaaGreatDoorNormCirclesW
import Derived.Test.YtihpoecdnchioaaGreatDoorNormCirclesF
namespace Go.Proofs.YtihpoecdnchioaaGreatDoor
open Go Go.ChangeShapes Go.WideShapes Go.ChangeAt Go.RowKit

set_option maxRecDepth 100000 in
theorem normCircles_lifted (os : Os) (started : os.Started) (H : Type) (enc : TypeId × Value → H) :
    ReturnsInHanded {} Tryz.checked os 7 .any (fun w args => (Rows.normCirclesSpec.pre enc Tryz.prog Tryz.f7 [] false w args ∧ laidMetH Tryz.prog laid5 w) ∧ sizedMet enc Tryz.prog Tryz.f7 (OpenSpec.ofChange Rows.normCirclesSpec) false w args)
      (Rows.normCirclesSpec.post enc Tryz.prog Tryz.f7 false true false false) := by
  refine returnsInHanded_of_change_and (C := Tryz.checked) (X := fun w _ => laidMetH Tryz.prog laid5 w) (fun _ _ _ hh h => h.of_heap hh) own started (by kernel_rfl) Tryz.func7
    (normCircles_witness os enc) ?_
  intro W base args ds gs before hval0 hW _ _ hL _
  have hval : ∀ (j : Nat) t v, Tryz.f7.params[j]? = some t → args[j]? = some v → Value.okWide Tryz.prog W .any base t v := hval0
  have hW' := hW
  obtain ⟨p, q, hA0, hV0, rfl, hfz, hnd⟩ := hW
  have hA : DataW.TrodAll enc Tryz.prog W 0 (fun _ => true) true Tryz.f7.params.toList args.toList ds p := hA0
  rw [paramsNormCircles] at hA hval
  obtain ⟨v0, d0, rfl, rfl, h0⟩ := trodAll_one hA
  obtain ⟨rfl, rfl⟩ := trodVars_none hV0
  have hlt : ∀ x ∈ p, x.block < W.heap.size := fun x hx => by simpa using hW'.lt x (by simpa using hx)
  obtain ⟨fa0, pv0, a0⟩ := arg_law (hval 0 _ v0 rfl rfl) h0
  refine (normCircles_any W a0).mono ?_
  rintro e W' ⟨rfl, hb⟩
  refine ⟨_, rfl, _, _, _, [], p, [], hW', ?_, ?_, ?_, hb.frame _, fun h => by cases h⟩
  · rw [resultsNormCircles]; exact trodAll_mk1 (shut_bool Tryz.underlying4 _)
  · rw [paramsNormCircles]; exact trodAll_mk1 (Below.trod laidOut (by kernel_rfl) (of_decide_eq_true (by kernel_rfl)) h0 hb (fun x hx => hlt x (by simp [hx])))
  · rfl

set_option maxRecDepth 100000 in
theorem normCircles_said : Rows.NormCirclesSaid :=
  OpenClaim.holds_of_wide 7 Tryz.f7 rfl rfl rfl rfl rfl rfl rfl ⟨rfl, rfl, rfl, rfl, rfl⟩ rfl rfl rfl rfl rfl normCircles_fn Tryz.func7 normCircles_facts
    normCircles_inst normCircles_wrap (fun os started H enc _ => normCircles_lifted os started H enc)

set_option maxRecDepth 100000 in
theorem normCircles_holds : Rows.NormCirclesCardSaid :=
  Claim7.holds_tied_plain_at .later [] [.data, .data, .data, .sentinel, .sentinel] true _ true
    normCircles_said (fun _ h => by cases h) normCircles_text (fun _ h => by cases h) normCircles_row_tie rfl ⟨rfl, rfl⟩ normCircles_main rfl normCircles_looks normCircles_goes
#print axioms normCircles_holds
end Go.Proofs.YtihpoecdnchioaaGreatDoor
