/- NormOthers: the statement: its row from the walk, the card from the row. No conditions. -/
import Derived.Test.YtihpoecdnchioaaGreatDoorNormOthersW
import Derived.Test.YtihpoecdnchioaaGreatDoorNormOthersF
namespace Go.Proofs.YtihpoecdnchioaaGreatDoor
open Go Go.ChangeShapes Go.WideShapes Go.ChangeAt Go.RowKit

set_option maxRecDepth 100000 in
theorem normOthers_lifted (os : Os) (started : os.Started) (H : Type) (enc : TypeId × Value → H) :
    ReturnsInHanded {} Tryz.checked os 6 .any (fun w args => (Rows.normOthersSpec.pre enc Tryz.prog Tryz.f6 [] false w args ∧ laidMetH Tryz.prog laid5 w) ∧ sizedMet enc Tryz.prog Tryz.f6 (OpenSpec.ofChange Rows.normOthersSpec) false w args)
      (Rows.normOthersSpec.post enc Tryz.prog Tryz.f6 false true false false) := by
  refine returnsInHanded_of_change_and (C := Tryz.checked) (X := fun w _ => laidMetH Tryz.prog laid5 w) (fun _ _ _ hh h => h.of_heap hh) own started (by kernel_rfl) Tryz.func6
    (normOthers_witness os enc) ?_
  intro W base args ds gs before hval0 hW _ _ hL _
  have hval : ∀ (j : Nat) t v, Tryz.f6.params[j]? = some t → args[j]? = some v → Value.okWide Tryz.prog W .any base t v := hval0
  have hW' := hW
  obtain ⟨p, q, hA0, hV0, rfl, hfz, hnd⟩ := hW
  have hA : DataW.TrodAll enc Tryz.prog W 0 (fun _ => true) true Tryz.f6.params.toList args.toList ds p := hA0
  rw [paramsNormOthers] at hA hval
  obtain ⟨v0, v1, v2, v3, v4, d0, d1, d2, d3, d4, p0, p1, p2, p3, p4, rfl, rfl, rfl, h0, h1, h2, h3, h4⟩ := trodAll_five hA
  obtain ⟨rfl, rfl⟩ := trodVars_none hV0
  have hlt : ∀ x ∈ p0 ++ p1 ++ p2 ++ p3 ++ p4, x.block < W.heap.size := fun x hx => by simpa using hW'.lt x (by simpa using hx)
  obtain ⟨fa0, pv0, a0⟩ := arg_law (hval 0 _ v0 rfl rfl) h0
  obtain ⟨s1, e1, a1⟩ := arg_string (hval 1 _ v1 rfl rfl) h1
  subst e1
  obtain ⟨n2, e2, a2, b2⟩ := arg_u8 (hval 2 _ v2 rfl rfl) h2
  subst e2
  obtain ⟨l3, a3⟩ := arg_strs (hval 3 _ v3 rfl rfl) h3
  obtain ⟨l4, a4⟩ := arg_case (hval 4 _ v4 rfl rfl) h4
  refine (normOthers_any W a0 a1 a2 b2 a3 a4).mono ?_
  rintro e W' ⟨rfl, hb⟩
  refine ⟨_, rfl, _, _, _, [], (p0 ++ (p1 ++ (p2 ++ (p3 ++ p4)))), [], hW', ?_, ?_, ?_, hb.frame _, fun h => by cases h⟩
  · rw [resultsNormOthers]; exact trodAll_mk1 (shut_bool Tryz.underlying4 _)
  · rw [paramsNormOthers]; exact trodAll_mk5 (Below.trod laidOut (by kernel_rfl) (of_decide_eq_true (by kernel_rfl)) h0 hb (fun x hx => hlt x (by simp [hx]))) (Below.trod laidOut (by kernel_rfl) (of_decide_eq_true (by kernel_rfl)) h1 hb (fun x hx => hlt x (by simp [hx]))) (Below.trod laidOut (by kernel_rfl) (of_decide_eq_true (by kernel_rfl)) h2 hb (fun x hx => hlt x (by simp [hx]))) (Below.trod laidOut (by kernel_rfl) (of_decide_eq_true (by kernel_rfl)) h3 hb (fun x hx => hlt x (by simp [hx]))) (Below.trod laidOut (by kernel_rfl) (of_decide_eq_true (by kernel_rfl)) h4 hb (fun x hx => hlt x (by simp [hx])))
  · rfl

set_option maxRecDepth 100000 in
theorem normOthers_said : Rows.NormOthersSaid :=
  OpenClaim.holds_of_wide 6 Tryz.f6 rfl rfl rfl rfl rfl rfl rfl ⟨rfl, rfl, rfl, rfl, rfl⟩ rfl rfl rfl rfl rfl normOthers_fn Tryz.func6 normOthers_facts
    normOthers_inst normOthers_wrap (fun os started H enc _ => normOthers_lifted os started H enc)

set_option maxRecDepth 100000 in
theorem normOthers_holds : Rows.NormOthersCardSaid :=
  Claim7.holds_tied_plain_at .later [] [.data, .data, .data, .sentinel, .sentinel] true _ true
    normOthers_said (fun _ h => by cases h) normOthers_text (fun _ h => by cases h) normOthers_row_tie rfl ⟨rfl, rfl⟩ normOthers_main rfl normOthers_looks normOthers_goes
#print axioms normOthers_holds
end Go.Proofs.YtihpoecdnchioaaGreatDoor
