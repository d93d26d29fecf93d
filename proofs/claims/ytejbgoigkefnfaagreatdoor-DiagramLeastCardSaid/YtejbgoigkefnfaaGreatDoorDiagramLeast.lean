/- DiagramLeast: the statement: its row from the walk, the card from the row. No conditions. -/
import Derived.Test.YtejbgoigkefnfaaGreatDoorDiagramLeastW
import Derived.Test.YtejbgoigkefnfaaGreatDoorDiagramLeastF
namespace Go.Proofs.YtejbgoigkefnfaaGreatDoor
open Go Go.ChangeShapes Go.WideShapes Go.ChangeAt Go.RowKit

set_option maxRecDepth 100000 in
theorem diagramLeast_lifted (os : Os) (started : os.Started) (H : Type) (enc : TypeId × Value → H) :
    ReturnsInHanded {} Tryz.checked os 4 .any (fun w args => (Rows.diagramLeastSpec.pre enc Tryz.prog Tryz.f4 [] false w args ∧ laidMetH Tryz.prog laid5 w) ∧ sizedMet enc Tryz.prog Tryz.f4 (OpenSpec.ofChange Rows.diagramLeastSpec) false w args)
      (Rows.diagramLeastSpec.post enc Tryz.prog Tryz.f4 false true false false) := by
  refine returnsInHanded_of_change_and (C := Tryz.checked) (X := fun w _ => laidMetH Tryz.prog laid5 w) (fun _ _ _ hh h => h.of_heap hh) own started (by kernel_rfl) Tryz.func4
    (diagramLeast_witness os enc) ?_
  intro W base args ds gs before hval0 hW _ _ hL _
  have hval : ∀ (j : Nat) t v, Tryz.f4.params[j]? = some t → args[j]? = some v → Value.okWide Tryz.prog W .any base t v := hval0
  have hW' := hW
  obtain ⟨p, q, hA0, hV0, rfl, hfz, hnd⟩ := hW
  have hA : DataW.TrodAll enc Tryz.prog W 0 (fun _ => true) true Tryz.f4.params.toList args.toList ds p := hA0
  rw [paramsDiagramLeast] at hA hval
  obtain ⟨v0, v1, v2, d0, d1, d2, p0, p1, p2, rfl, rfl, rfl, h0, h1, h2⟩ := trodAll_three hA
  obtain ⟨rfl, rfl⟩ := trodVars_none hV0
  have hlt : ∀ x ∈ p0 ++ p1 ++ p2, x.block < W.heap.size := fun x hx => by simpa using hW'.lt x (by simpa using hx)
  obtain ⟨fo0, a0⟩ := arg_fo (hval 0 _ v0 rfl rfl) h0
  obtain ⟨dd1, a1⟩ := arg_dom (hval 1 _ v1 rfl rfl) h1
  obtain ⟨l2, a2⟩ := arg_case (hval 2 _ v2 rfl rfl) h2
  refine (diagramLeast_any W a0 a1 a2 (tab_met hL)).mono ?_
  rintro e W' ⟨rfl, hb⟩
  refine ⟨_, rfl, _, _, _, [], (p0 ++ (p1 ++ p2)), [], hW', ?_, ?_, ?_, hb.frame _, fun h => by cases h⟩
  · rw [resultsDiagramLeast]; exact trodAll_mk1 (shut_bool Tryz.underlying4 _)
  · rw [paramsDiagramLeast]; exact trodAll_mk3 (Below.trod laidOut (by kernel_rfl) (of_decide_eq_true (by kernel_rfl)) h0 hb (fun x hx => hlt x (by simp [hx]))) (Below.trod laidOut (by kernel_rfl) (of_decide_eq_true (by kernel_rfl)) h1 hb (fun x hx => hlt x (by simp [hx]))) (Below.trod laidOut (by kernel_rfl) (of_decide_eq_true (by kernel_rfl)) h2 hb (fun x hx => hlt x (by simp [hx])))
  · rfl

set_option maxRecDepth 100000 in
theorem diagramLeast_said : Rows.DiagramLeastSaid :=
  OpenClaim.holds_of_wide 4 Tryz.f4 rfl rfl rfl rfl rfl rfl rfl ⟨rfl, rfl, rfl, rfl, rfl⟩ rfl rfl rfl rfl rfl diagramLeast_fn Tryz.func4 diagramLeast_facts
    diagramLeast_inst diagramLeast_wrap (fun os started H enc _ => diagramLeast_lifted os started H enc)

set_option maxRecDepth 100000 in
theorem diagramLeast_holds : Rows.DiagramLeastCardSaid :=
  Claim7.holds_tied_plain_at .later [] [.data, .data, .data, .sentinel, .sentinel] true _ true
    diagramLeast_said (fun _ h => by cases h) diagramLeast_text (fun _ h => by cases h) diagramLeast_row_tie rfl ⟨rfl, rfl⟩ diagramLeast_main rfl diagramLeast_looks diagramLeast_goes
#print axioms diagramLeast_holds
end Go.Proofs.YtejbgoigkefnfaaGreatDoor
