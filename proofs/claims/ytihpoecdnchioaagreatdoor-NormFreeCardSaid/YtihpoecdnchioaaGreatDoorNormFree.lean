/- NormFree: the statement: its row from the walk, the card from the row. No conditions. -/
import Derived.Test.YtihpoecdnchioaaGreatDoorNormFreeW
import Derived.Test.YtihpoecdnchioaaGreatDoorNormFreeF
namespace Go.Proofs.YtihpoecdnchioaaGreatDoor
open Go Go.ChangeShapes Go.WideShapes Go.ChangeAt Go.RowKit

set_option maxRecDepth 100000 in
theorem normFree_lifted (os : Os) (started : os.Started) (H : Type) (enc : TypeId × Value → H) :
    ReturnsInHanded {} Tryz.checked os 9 .any (fun w args => (Rows.normFreeSpec.pre enc Tryz.prog Tryz.f9 [] false w args ∧ laidMetH Tryz.prog laid5 w) ∧ sizedMet enc Tryz.prog Tryz.f9 (OpenSpec.ofChange Rows.normFreeSpec) false w args)
      (Rows.normFreeSpec.post enc Tryz.prog Tryz.f9 false true false false) := by
  refine returnsInHanded_of_change_and (C := Tryz.checked) (X := fun w _ => laidMetH Tryz.prog laid5 w) (fun _ _ _ hh h => h.of_heap hh) own started (by kernel_rfl) Tryz.func9
    (normFree_witness os enc) ?_
  intro W base args ds gs before hval0 hW _ _ hL _
  have hval : ∀ (j : Nat) t v, Tryz.f9.params[j]? = some t → args[j]? = some v → Value.okWide Tryz.prog W .any base t v := hval0
  have hW' := hW
  obtain ⟨p, q, hA0, hV0, rfl, hfz, hnd⟩ := hW
  have hA : DataW.TrodAll enc Tryz.prog W 0 (fun _ => true) true Tryz.f9.params.toList args.toList ds p := hA0
  rw [paramsNormFree] at hA hval
  obtain ⟨v0, v1, d0, d1, p0, p1, rfl, rfl, rfl, h0, h1⟩ := trodAll_two hA
  obtain ⟨rfl, rfl⟩ := trodVars_none hV0
  have hlt : ∀ x ∈ p0 ++ p1, x.block < W.heap.size := fun x hx => by simpa using hW'.lt x (by simpa using hx)
  obtain ⟨fa0, pv0, a0⟩ := arg_law (hval 0 _ v0 rfl rfl) h0
  obtain ⟨l1, a1⟩ := arg_case (hval 1 _ v1 rfl rfl) h1
  refine (normFree_any W a0 a1).mono ?_
  rintro e W' ⟨rfl, hb⟩
  refine ⟨_, rfl, _, _, _, [], (p0 ++ p1), [], hW', ?_, ?_, ?_, hb.frame _, fun h => by cases h⟩
  · rw [resultsNormFree]; exact trodAll_mk1 (shut_bool Tryz.underlying4 _)
  · rw [paramsNormFree]; exact trodAll_mk2 (Below.trod laidOut (by kernel_rfl) (of_decide_eq_true (by kernel_rfl)) h0 hb (fun x hx => hlt x (by simp [hx]))) (Below.trod laidOut (by kernel_rfl) (of_decide_eq_true (by kernel_rfl)) h1 hb (fun x hx => hlt x (by simp [hx])))
  · rfl

set_option maxRecDepth 100000 in
theorem normFree_said : Rows.NormFreeSaid :=
  OpenClaim.holds_of_wide 9 Tryz.f9 rfl rfl rfl rfl rfl rfl rfl ⟨rfl, rfl, rfl, rfl, rfl⟩ rfl rfl rfl rfl rfl normFree_fn Tryz.func9 normFree_facts
    normFree_inst normFree_wrap (fun os started H enc _ => normFree_lifted os started H enc)

set_option maxRecDepth 100000 in
theorem normFree_holds : Rows.NormFreeCardSaid :=
  Claim7.holds_tied_plain_at .later [] [.data, .data, .data, .sentinel, .sentinel] true _ true
    normFree_said (fun _ h => by cases h) normFree_text (fun _ h => by cases h) normFree_row_tie rfl ⟨rfl, rfl⟩ normFree_main rfl normFree_looks normFree_goes
#print axioms normFree_holds
end Go.Proofs.YtihpoecdnchioaaGreatDoor
