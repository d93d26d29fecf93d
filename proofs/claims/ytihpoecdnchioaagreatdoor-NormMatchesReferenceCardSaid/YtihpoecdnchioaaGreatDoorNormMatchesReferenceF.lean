/- NormMatchesReference: closed facts of its row, its shown start. No conditions. -/
import Derived.Test.YtihpoecdnchioaaGreatDoorWit
namespace Go.Proofs.YtihpoecdnchioaaGreatDoor
open Go Go.ChangeShapes Go.WideShapes Go.ChangeAt Go.RowKit

theorem paramsNormMatchesReference : Tryz.f3.params = #[28, 9, 29] := by kernel_rfl
theorem resultsNormMatchesReference : Tryz.f3.resultTypes = #[4] := by kernel_rfl

set_option maxRecDepth 100000 in
theorem normMatchesReference_witness (os : Os) {H : Type} (enc : TypeId × Value → H) : ∃ (w : World) (tape : Tape) (i : Input), w.os = os ∧ (w.forCall tape i).Shaped Tryz.checked.prog ∧ i.vars = [] ∧ Input.okWide Tryz.checked.prog (w.forCall tape i) .any w.heap.size 3 i ∧
    ((Rows.normMatchesReferenceSpec.pre enc Tryz.checked.prog Tryz.f3 [] false (w.forCall tape i).memory i.args ∧ laidMetH Tryz.prog laid5 (w.forCall tape i).memory) ∧ sizedMet enc Tryz.checked.prog Tryz.f3 (OpenSpec.ofChange Rows.normMatchesReferenceSpec) false (w.forCall tape i).memory i.args) ∧ ({} : Assume).holds Tryz.checked.prog (lone (Frame.enter Tryz.checked.prog 3 i.args .normal) [] (w.forCall tape i)) :=
  ChangeSpec.witness_shaped (enc := enc) (C := Tryz.checked) (os := os) (X := fun w _ => laidMetH Tryz.prog laid5 w) false (World.doorLaid Tryz.prog 2000 os) #[lawV, .string ⟨#[]⟩, .slice none 0 0] 8 rfl (World.shaped_of_RefB (by kernel_rfl) (by kernel_rfl)) (by kernel_rfl) (by kernel_rfl) (by kernel_rfl) (door_met os _)
theorem normMatchesReference_j0 : Rows.normMatchesReferenceRow.wf (OpenSpec.ofChange Rows.normMatchesReferenceSpec) = true := by kernel_rfl
theorem normMatchesReference_j3 : Tryz.f3.params.all (Tryz.prog.readableRec ·) = true := by kernel_rfl
theorem normMatchesReference_j4 : namedTie Tryz.prog Rows.normMatchesReferenceRow.named Rows.normMatchesReferenceSpec.vars = true := by kernel_rfl
theorem normMatchesReference_j5 : (Rows.normMatchesReferenceRow.stops == []) = true := by kernel_rfl
theorem normMatchesReference_j7 : (Rows.normMatchesReferenceRow.knobs == []) = true := by kernel_rfl
theorem normMatchesReference_j9 : (Rows.normMatchesReferenceRow.inPlace == Tryz.prog.inPlace 3) = true := by kernel_rfl
theorem normMatchesReference_j10 : (Rows.normMatchesReferenceRow.unfollowed == Tryz.prog.unfollowed 3) = true := by kernel_rfl
theorem normMatchesReference_j11 : (Rows.normMatchesReferenceRow.recurses == Tryz.prog.recurses 3) = true := by kernel_rfl
theorem normMatchesReference_j12 : (Rows.normMatchesReferenceRow.named == Tryz.prog.varsNamed 3) = true := by kernel_rfl
theorem normMatchesReference_j13 : (Rows.normMatchesReferenceRow.maps == (Tryz.f3.params.toList ++ Rows.normMatchesReferenceSpec.plain.varTypes Tryz.prog).any (Tryz.prog.mapsRec ·)) = true := by kernel_rfl
theorem normMatchesReference_j14 : (Rows.normMatchesReferenceRow.ifaces == (Tryz.f3.params.toList ++ Rows.normMatchesReferenceSpec.plain.varTypes Tryz.prog).any (Tryz.prog.ifacesRec ·)) = true := by kernel_rfl
theorem normMatchesReference_j15 : (Rows.normMatchesReferenceRow.mapsOut == Tryz.prog.mapsAmong Tryz.f3.resultTypes.toList) = true := by kernel_rfl
theorem normMatchesReference_j16 : (Rows.normMatchesReferenceRow.loops == (Tryz.f3.params.toList ++ Rows.normMatchesReferenceSpec.plain.varTypes Tryz.prog).any (Tryz.prog.loopsFrom ·)) = true := by kernel_rfl
theorem normMatchesReference_j17 : (Rows.normMatchesReferenceRow.wideKeys == (Tryz.f3.params.toList ++ Rows.normMatchesReferenceSpec.plain.varTypes Tryz.prog ++ Tryz.f3.resultTypes.toList).any (Tryz.prog.wideKeysFrom ·)) = true := by kernel_rfl
theorem normMatchesReference_j18 : Rows.normMatchesReferenceSpec.vars.all (Tryz.prog.varReadable ·) = true := by kernel_rfl
theorem normMatchesReference_j19 : Tryz.f3.resultTypes.all (fun t => Tryz.prog.readableRec t && decide (t < Tryz.prog.types.size)) = true := by kernel_rfl
theorem normMatchesReference_j20 : (Rows.normMatchesReferenceRow.ifacesOut == Tryz.f3.resultTypes.toList.any (Tryz.prog.ifacesRec ·)) = true := by kernel_rfl
theorem normMatchesReference_j21 : (Rows.normMatchesReferenceRow.loopsOut == Tryz.f3.resultTypes.toList.any (Tryz.prog.loopsFrom ·)) = true := by kernel_rfl
theorem normMatchesReference_j22 : (Rows.normMatchesReferenceRow.plainKeys == Tryz.prog.plainKeys) = true := by kernel_rfl
theorem normMatchesReference_j23 : Rows.normMatchesReferenceRow.shortTexts.isNone = true := by kernel_rfl
theorem normMatchesReference_j26 : (Rows.normMatchesReferenceRow.lifted == Tryz.prog.liftsFinal) = true := by kernel_rfl
theorem normMatchesReference_j27 : (Tryz.prog.make == some Rows.normMatchesReferenceRow.make) = true := by kernel_rfl
theorem normMatchesReference_j28 : (Rows.normMatchesReferenceRow.kinds == (if Rows.normMatchesReferenceRow.domain.isEmpty then [] else Tryz.f3.params.toList.map fun t => match Tryz.prog.underlying t with | some (.int k) => some k | _ => none)) = true := by kernel_rfl
theorem normMatchesReference_j29 : (Rows.normMatchesReferenceRow.pinned == Rows.normMatchesReferenceRow.pinnedBy) = true := by kernel_rfl
theorem normMatchesReference_j30 : (Rows.normMatchesReferenceRow.veiled == (Tryz.f3.params.toList ++ Rows.normMatchesReferenceSpec.plain.varTypes Tryz.prog ++ Tryz.f3.resultTypes.toList).any (Tryz.prog.veiledRec ·)) = true := by kernel_rfl
theorem normMatchesReference_j31 : Rows.normMatchesReferenceRow.veiledFits Tryz.prog Tryz.f3.params.toList (Tryz.f3.params.toList ++ Rows.normMatchesReferenceSpec.plain.varTypes Tryz.prog ++ Tryz.f3.resultTypes.toList) = true := by kernel_rfl
set_option maxRecDepth 100000 in
theorem normMatchesReference_facts : joinedFacts Tryz.prog 3 Tryz.f3 Rows.normMatchesReferenceSpec Rows.normMatchesReferenceRow = true :=
  and1 (and1 (and1 (and1 (and1 (and1 (and1 (and1 (and1 (and1 (and1 (and1 (and1 (and1 (and1 (and1 (and1 (and1 (and1 (and1 (and1 (and1 (and1 (and1 (and1 (and1 (and1 (and1 (and1 (and1 (and1 (normMatchesReference_j0) laidOut) jRowed) normMatchesReference_j3) normMatchesReference_j4) normMatchesReference_j5) jStops) normMatchesReference_j7) jKnobs) normMatchesReference_j9) normMatchesReference_j10) normMatchesReference_j11) normMatchesReference_j12) normMatchesReference_j13) normMatchesReference_j14) normMatchesReference_j15) normMatchesReference_j16) normMatchesReference_j17) normMatchesReference_j18) normMatchesReference_j19) normMatchesReference_j20) normMatchesReference_j21) normMatchesReference_j22) normMatchesReference_j23) jHeard) jEnter) normMatchesReference_j26) normMatchesReference_j27) normMatchesReference_j28) normMatchesReference_j29) normMatchesReference_j30) normMatchesReference_j31
theorem normMatchesReference_fn : Tryz.prog.funcNamed Rows.normMatchesReferenceRow.func = some 3 := by kernel_rfl
theorem normMatchesReference_inst : Tryz.f3.isInstance Tryz.prog Rows.normMatchesReferenceRow.origin Rows.normMatchesReferenceRow.targs := of_decide_eq_true (by kernel_rfl)
theorem normMatchesReference_wrap : Tryz.f3.isWrapper Tryz.prog Rows.normMatchesReferenceRow.wrapper Rows.normMatchesReferenceRow.mainSum := by
  unfold Func.isWrapper; first | (rw [if_pos (by decide +kernel)]; kernel_rfl) | (rw [if_neg (by decide +kernel)]; exact ⟨rfl, rfl⟩)
theorem normMatchesReference_text : Rows.normMatchesReferenceRow.wfByText (OpenSpec.ofChange Rows.normMatchesReferenceSpec) = true := by kernel_rfl
theorem normMatchesReference_main : Tryz.pinned.checked.prog.mainIs = some (true, "542762a18bf871ad1b39b503933890a1e21b2b1e9f7eced2e686454d6146b3bb".toList) := by kernel_rfl
theorem normMatchesReference_goes : false = Rows.normMatchesReferenceRow.goesBy Tryz.pinned.checked.prog := by kernel_rfl
theorem normMatchesReference_stand : ([28, 9, 29].all fun u => !Tryz.prog.wantsStandIn u) = true := by kernel_rfl
set_option maxRecDepth 100000 in
theorem normMatchesReference_looks : ∀ f fn, Tryz.prog.funcNamed Rows.normMatchesReferenceRow.func = some f → Tryz.prog.funcs[f]? = some fn → true = Tryz.prog.looks [] ∧ ∀ (j : Nat) t, fn.params[j]? = some t → Tryz.prog.wantsStandIn t = false := by
  intro f fn hf hfn
  obtain rfl : f = 3 := (Option.some.inj (normMatchesReference_fn.symm.trans hf)).symm
  obtain rfl : fn = Tryz.f3 := (Option.some.inj (Tryz.func3.symm.trans hfn)).symm
  refine ⟨jLooks, fun j t ht => ?_⟩
  rw [paramsNormMatchesReference] at ht
  have hm : t ∈ [28, 9, 29] := by simpa using Array.mem_of_getElem? ht
  simpa using List.all_eq_true.1 normMatchesReference_stand t hm
end Go.Proofs.YtihpoecdnchioaaGreatDoor
