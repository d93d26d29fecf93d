/- DiagramRefuses: the statement: its row from the walk, the card from the row. No conditions. -/
import Derived.Test.YtejbgoigkefnfaaGreatDoorDiagramRefusesW
import Derived.Test.YtejbgoigkefnfaaGreatDoorDiagramRefusesF
namespace Go.Proofs.YtejbgoigkefnfaaGreatDoor
open Go Go.ChangeShapes Go.WideShapes Go.ChangeAt Go.RowKit

set_option maxRecDepth 100000 in
theorem diagramRefuses_lifted (os : Os) (started : os.Started) (H : Type) (enc : TypeId × Value → H) :
    ReturnsInHanded {} Tryz.checked os 7 .any (fun w args => (Rows.diagramRefusesSpec.pre enc Tryz.prog Tryz.f7 [] false w args ∧ laidMetH Tryz.prog laid5 w) ∧ sizedMet enc Tryz.prog Tryz.f7 (OpenSpec.ofChange Rows.diagramRefusesSpec) false w args)
      (Rows.diagramRefusesSpec.post enc Tryz.prog Tryz.f7 false true false false) := by
  refine returnsInHanded_of_change_and (C := Tryz.checked) (X := fun w _ => laidMetH Tryz.prog laid5 w) (fun _ _ _ hh h => h.of_heap hh) own started (by kernel_rfl) Tryz.func7
    (diagramRefuses_witness os enc) ?_
  intro W base args ds gs before hval0 hW _ _ hL _
  have hval : ∀ (j : Nat) t v, Tryz.f7.params[j]? = some t → args[j]? = some v → Value.okWide Tryz.prog W .any base t v := hval0
  have hW' := hW
  obtain ⟨p, q, hA0, hV0, rfl, hfz, hnd⟩ := hW
  have hA : DataW.TrodAll enc Tryz.prog W 0 (fun _ => true) true Tryz.f7.params.toList args.toList ds p := hA0
  rw [paramsDiagramRefuses] at hA hval
  obtain ⟨v0, v1, v2, d0, d1, d2, p0, p1, p2, rfl, rfl, rfl, h0, h1, h2⟩ := trodAll_three hA
  obtain ⟨rfl, rfl⟩ := trodVars_none hV0
  have hlt : ∀ x ∈ p0 ++ p1 ++ p2, x.block < W.heap.size := fun x hx => by simpa using hW'.lt x (by simpa using hx)
  obtain ⟨dg0, a0, n0⟩ := arg_dg (hval 0 _ v0 rfl rfl) h0
  obtain ⟨dg1, a1, n1⟩ := arg_dg (hval 1 _ v1 rfl rfl) h1
  obtain ⟨dd2, a2⟩ := arg_dom (hval 2 _ v2 rfl rfl) h2
  refine (diagramRefuses_any W a0 n0 a1 n1 a2 (tab_met hL)).mono ?_
  rintro e W' ⟨rfl, hb⟩
  refine ⟨_, rfl, _, _, _, [], (p0 ++ (p1 ++ p2)), [], hW', ?_, ?_, ?_, hb.frame _, fun h => by cases h⟩
  · rw [resultsDiagramRefuses]; exact trodAll_mk1 (shut_bool Tryz.underlying4 _)
  · rw [paramsDiagramRefuses]; exact trodAll_mk3 (Below.trod laidOut (by kernel_rfl) (of_decide_eq_true (by kernel_rfl)) h0 hb (fun x hx => hlt x (by simp [hx]))) (Below.trod laidOut (by kernel_rfl) (of_decide_eq_true (by kernel_rfl)) h1 hb (fun x hx => hlt x (by simp [hx]))) (Below.trod laidOut (by kernel_rfl) (of_decide_eq_true (by kernel_rfl)) h2 hb (fun x hx => hlt x (by simp [hx])))
  · rfl

set_option maxRecDepth 100000 in
theorem diagramRefuses_said : Rows.DiagramRefusesSaid :=
  OpenClaim.holds_of_wide 7 Tryz.f7 rfl rfl rfl rfl rfl rfl rfl ⟨rfl, rfl, rfl, rfl, rfl⟩ rfl rfl rfl rfl rfl diagramRefuses_fn Tryz.func7 diagramRefuses_facts
    diagramRefuses_inst diagramRefuses_wrap (fun os started H enc _ => diagramRefuses_lifted os started H enc)

set_option maxRecDepth 100000 in
theorem diagramRefuses_holds : Rows.DiagramRefusesCardSaid :=
  Claim7.holds_tied_plain_at .later [] [.data, .data, .data, .sentinel, .sentinel] true _ true
    diagramRefuses_said (fun _ h => by cases h) diagramRefuses_text (fun _ h => by cases h) diagramRefuses_row_tie rfl ⟨rfl, rfl⟩ diagramRefuses_main rfl diagramRefuses_looks diagramRefuses_goes
#print axioms diagramRefuses_holds
end Go.Proofs.YtejbgoigkefnfaaGreatDoor
