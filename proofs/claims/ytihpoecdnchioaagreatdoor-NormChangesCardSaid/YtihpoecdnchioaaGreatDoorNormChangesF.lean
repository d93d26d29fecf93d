/- NormChanges: closed facts of its row, its shown start. No conditions. -/
import Derived.Test.YtihpoecdnchioaaGreatDoorWit
namespace Go.Proofs.YtihpoecdnchioaaGreatDoor
open Go Go.ChangeShapes Go.WideShapes Go.ChangeAt Go.RowKit

theorem paramsNormChanges : Tryz.f8.params = #[28, 5, 44, 29] := by kernel_rfl
theorem resultsNormChanges : Tryz.f8.resultTypes = #[4] := by kernel_rfl

set_option maxRecDepth 100000 in
theorem normChanges_witness (os : Os) {H : Type} (enc : TypeId × Value → H) : ∃ (w : World) (tape : Tape) (i : Input), w.os = os ∧ (w.forCall tape i).Shaped Tryz.checked.prog ∧ i.vars = [] ∧ Input.okWide Tryz.checked.prog (w.forCall tape i) .any w.heap.size 8 i ∧
    ((Rows.normChangesSpec.pre enc Tryz.checked.prog Tryz.f8 [] false (w.forCall tape i).memory i.args ∧ laidMetH Tryz.prog laid5 (w.forCall tape i).memory) ∧ sizedMet enc Tryz.checked.prog Tryz.f8 (OpenSpec.ofChange Rows.normChangesSpec) false (w.forCall tape i).memory i.args) ∧ ({} : Assume).holds Tryz.checked.prog (lone (Frame.enter Tryz.checked.prog 8 i.args .normal) [] (w.forCall tape i)) :=
  ChangeSpec.witness_shaped (enc := enc) (C := Tryz.checked) (os := os) (X := fun w _ => laidMetH Tryz.prog laid5 w) false (World.doorLaid Tryz.prog 2000 os) #[lawV, .int .u8 0, .agg #[.int .i64 0, .string ⟨#[]⟩, .int .i64 0, .int .i64 0, .slice none 0 0], .slice none 0 0] 8 rfl (World.shaped_of_RefB (by kernel_rfl) (by kernel_rfl)) (by kernel_rfl) (by kernel_rfl) (by kernel_rfl) (door_met os _)
theorem normChanges_j0 : Rows.normChangesRow.wf (OpenSpec.ofChange Rows.normChangesSpec) = true := by kernel_rfl
theorem normChanges_j3 : Tryz.f8.params.all (Tryz.prog.readableRec ·) = true := by kernel_rfl
theorem normChanges_j4 : namedTie Tryz.prog Rows.normChangesRow.named Rows.normChangesSpec.vars = true := by kernel_rfl
theorem normChanges_j5 : (Rows.normChangesRow.stops == []) = true := by kernel_rfl
theorem normChanges_j7 : (Rows.normChangesRow.knobs == []) = true := by kernel_rfl
theorem normChanges_j9 : (Rows.normChangesRow.inPlace == Tryz.prog.inPlace 8) = true := by kernel_rfl
theorem normChanges_j10 : (Rows.normChangesRow.unfollowed == Tryz.prog.unfollowed 8) = true := by kernel_rfl
theorem normChanges_j11 : (Rows.normChangesRow.recurses == Tryz.prog.recurses 8) = true := by kernel_rfl
theorem normChanges_j12 : (Rows.normChangesRow.named == Tryz.prog.varsNamed 8) = true := by kernel_rfl
theorem normChanges_j13 : (Rows.normChangesRow.maps == (Tryz.f8.params.toList ++ Rows.normChangesSpec.plain.varTypes Tryz.prog).any (Tryz.prog.mapsRec ·)) = true := by kernel_rfl
theorem normChanges_j14 : (Rows.normChangesRow.ifaces == (Tryz.f8.params.toList ++ Rows.normChangesSpec.plain.varTypes Tryz.prog).any (Tryz.prog.ifacesRec ·)) = true := by kernel_rfl
theorem normChanges_j15 : (Rows.normChangesRow.mapsOut == Tryz.prog.mapsAmong Tryz.f8.resultTypes.toList) = true := by kernel_rfl
theorem normChanges_j16 : (Rows.normChangesRow.loops == (Tryz.f8.params.toList ++ Rows.normChangesSpec.plain.varTypes Tryz.prog).any (Tryz.prog.loopsFrom ·)) = true := by kernel_rfl
theorem normChanges_j17 : (Rows.normChangesRow.wideKeys == (Tryz.f8.params.toList ++ Rows.normChangesSpec.plain.varTypes Tryz.prog ++ Tryz.f8.resultTypes.toList).any (Tryz.prog.wideKeysFrom ·)) = true := by kernel_rfl
theorem normChanges_j18 : Rows.normChangesSpec.vars.all (Tryz.prog.varReadable ·) = true := by kernel_rfl
theorem normChanges_j19 : Tryz.f8.resultTypes.all (fun t => Tryz.prog.readableRec t && decide (t < Tryz.prog.types.size)) = true := by kernel_rfl
theorem normChanges_j20 : (Rows.normChangesRow.ifacesOut == Tryz.f8.resultTypes.toList.any (Tryz.prog.ifacesRec ·)) = true := by kernel_rfl
theorem normChanges_j21 : (Rows.normChangesRow.loopsOut == Tryz.f8.resultTypes.toList.any (Tryz.prog.loopsFrom ·)) = true := by kernel_rfl
theorem normChanges_j22 : (Rows.normChangesRow.plainKeys == Tryz.prog.plainKeys) = true := by kernel_rfl
theorem normChanges_j23 : Rows.normChangesRow.shortTexts.isNone = true := by kernel_rfl
theorem normChanges_j26 : (Rows.normChangesRow.lifted == Tryz.prog.liftsFinal) = true := by kernel_rfl
theorem normChanges_j27 : (Tryz.prog.make == some Rows.normChangesRow.make) = true := by kernel_rfl
theorem normChanges_j28 : (Rows.normChangesRow.kinds == (if Rows.normChangesRow.domain.isEmpty then [] else Tryz.f8.params.toList.map fun t => match Tryz.prog.underlying t with | some (.int k) => some k | _ => none)) = true := by kernel_rfl
theorem normChanges_j29 : (Rows.normChangesRow.pinned == Rows.normChangesRow.pinnedBy) = true := by kernel_rfl
theorem normChanges_j30 : (Rows.normChangesRow.veiled == (Tryz.f8.params.toList ++ Rows.normChangesSpec.plain.varTypes Tryz.prog ++ Tryz.f8.resultTypes.toList).any (Tryz.prog.veiledRec ·)) = true := by kernel_rfl
theorem normChanges_j31 : Rows.normChangesRow.veiledFits Tryz.prog Tryz.f8.params.toList (Tryz.f8.params.toList ++ Rows.normChangesSpec.plain.varTypes Tryz.prog ++ Tryz.f8.resultTypes.toList) = true := by kernel_rfl
set_option maxRecDepth 100000 in
theorem normChanges_facts : joinedFacts Tryz.prog 8 Tryz.f8 Rows.normChangesSpec Rows.normChangesRow = true :=
  and1 (and1 (and1 (and1 (and1 (and1 (and1 (and1 (and1 (and1 (and1 (and1 (and1 (and1 (and1 (and1 (and1 (and1 (and1 (and1 (and1 (and1 (and1 (and1 (and1 (and1 (and1 (and1 (and1 (and1 (and1 (normChanges_j0) laidOut) jRowed) normChanges_j3) normChanges_j4) normChanges_j5) jStops) normChanges_j7) jKnobs) normChanges_j9) normChanges_j10) normChanges_j11) normChanges_j12) normChanges_j13) normChanges_j14) normChanges_j15) normChanges_j16) normChanges_j17) normChanges_j18) normChanges_j19) normChanges_j20) normChanges_j21) normChanges_j22) normChanges_j23) jHeard) jEnter) normChanges_j26) normChanges_j27) normChanges_j28) normChanges_j29) normChanges_j30) normChanges_j31
theorem normChanges_fn : Tryz.prog.funcNamed Rows.normChangesRow.func = some 8 := by kernel_rfl
theorem normChanges_inst : Tryz.f8.isInstance Tryz.prog Rows.normChangesRow.origin Rows.normChangesRow.targs := of_decide_eq_true (by kernel_rfl)
theorem normChanges_wrap : Tryz.f8.isWrapper Tryz.prog Rows.normChangesRow.wrapper Rows.normChangesRow.mainSum := by
  unfold Func.isWrapper; first | (rw [if_pos (by decide +kernel)]; kernel_rfl) | (rw [if_neg (by decide +kernel)]; exact ⟨rfl, rfl⟩)
theorem normChanges_text : Rows.normChangesRow.wfByText (OpenSpec.ofChange Rows.normChangesSpec) = true := by kernel_rfl
theorem normChanges_main : Tryz.pinned.checked.prog.mainIs = some (true, "542762a18bf871ad1b39b503933890a1e21b2b1e9f7eced2e686454d6146b3bb".toList) := by kernel_rfl
theorem normChanges_goes : false = Rows.normChangesRow.goesBy Tryz.pinned.checked.prog := by kernel_rfl
theorem normChanges_stand : ([28, 5, 44, 29].all fun u => !Tryz.prog.wantsStandIn u) = true := by kernel_rfl
set_option maxRecDepth 100000 in
theorem normChanges_looks : ∀ f fn, Tryz.prog.funcNamed Rows.normChangesRow.func = some f → Tryz.prog.funcs[f]? = some fn → true = Tryz.prog.looks [] ∧ ∀ (j : Nat) t, fn.params[j]? = some t → Tryz.prog.wantsStandIn t = false := by
  intro f fn hf hfn
  obtain rfl : f = 8 := (Option.some.inj (normChanges_fn.symm.trans hf)).symm
  obtain rfl : fn = Tryz.f8 := (Option.some.inj (Tryz.func8.symm.trans hfn)).symm
  refine ⟨jLooks, fun j t ht => ?_⟩
  rw [paramsNormChanges] at ht
  have hm : t ∈ [28, 5, 44, 29] := by simpa using Array.mem_of_getElem? ht
  simpa using List.all_eq_true.1 normChanges_stand t hm
end Go.Proofs.YtihpoecdnchioaaGreatDoor
