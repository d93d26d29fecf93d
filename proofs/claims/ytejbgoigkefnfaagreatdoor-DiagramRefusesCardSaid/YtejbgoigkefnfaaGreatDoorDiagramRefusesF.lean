/- DiagramRefuses: closed facts of its row, its shown start. No conditions. -/
import Derived.Test.YtejbgoigkefnfaaGreatDoorWitD
namespace Go.Proofs.YtejbgoigkefnfaaGreatDoor
open Go Go.ChangeShapes Go.WideShapes Go.ChangeAt Go.RowKit

theorem paramsDiagramRefuses : Tryz.f7.params = #[34, 34, 27] := by kernel_rfl
theorem resultsDiagramRefuses : Tryz.f7.resultTypes = #[4] := by kernel_rfl

set_option maxRecDepth 100000 in
theorem diagramRefuses_witness (os : Os) {H : Type} (enc : TypeId × Value → H) : ∃ (w : World) (tape : Tape) (i : Input), w.os = os ∧ (w.forCall tape i).Shaped Tryz.checked.prog ∧ i.vars = [] ∧ Input.okWide Tryz.checked.prog (w.forCall tape i) .any w.heap.size 7 i ∧
    ((Rows.diagramRefusesSpec.pre enc Tryz.checked.prog Tryz.f7 [] false (w.forCall tape i).memory i.args ∧ laidMetH Tryz.prog laid5 (w.forCall tape i).memory) ∧ sizedMet enc Tryz.checked.prog Tryz.f7 (OpenSpec.ofChange Rows.diagramRefusesSpec) false (w.forCall tape i).memory i.args) ∧ ({} : Assume).holds Tryz.checked.prog (lone (Frame.enter Tryz.checked.prog 7 i.args .normal) [] (w.forCall tape i)) :=
  ChangeSpec.witness_shaped (enc := enc) (C := Tryz.checked) (os := os) (X := fun w _ => laidMetH Tryz.prog laid5 w) false (World.doorLaid Tryz.prog 2000 os) #[.agg #[.slice none 0 0], .agg #[.slice none 0 0], .agg #[.slice none 0 0]] 8 rfl (World.shaped_of_RefB (by kernel_rfl) (by kernel_rfl)) (by kernel_rfl) (by kernel_rfl) (by kernel_rfl) (door_met os _)
theorem diagramRefuses_j0 : Rows.diagramRefusesRow.wf (OpenSpec.ofChange Rows.diagramRefusesSpec) = true := by kernel_rfl
theorem diagramRefuses_j3 : Tryz.f7.params.all (Tryz.prog.readableRec ·) = true := by kernel_rfl
theorem diagramRefuses_j4 : namedTie Tryz.prog Rows.diagramRefusesRow.named Rows.diagramRefusesSpec.vars = true := by kernel_rfl
theorem diagramRefuses_j5 : (Rows.diagramRefusesRow.stops == []) = true := by kernel_rfl
theorem diagramRefuses_j7 : (Rows.diagramRefusesRow.knobs == []) = true := by kernel_rfl
theorem diagramRefuses_j9 : (Rows.diagramRefusesRow.inPlace == Tryz.prog.inPlace 7) = true := by kernel_rfl
theorem diagramRefuses_j10 : (Rows.diagramRefusesRow.unfollowed == Tryz.prog.unfollowed 7) = true := by kernel_rfl
theorem diagramRefuses_j11 : (Rows.diagramRefusesRow.recurses == Tryz.prog.recurses 7) = true := by kernel_rfl
theorem diagramRefuses_j12 : (Rows.diagramRefusesRow.named == Tryz.prog.varsNamed 7) = true := by kernel_rfl
theorem diagramRefuses_j13 : (Rows.diagramRefusesRow.maps == (Tryz.f7.params.toList ++ Rows.diagramRefusesSpec.plain.varTypes Tryz.prog).any (Tryz.prog.mapsRec ·)) = true := by kernel_rfl
theorem diagramRefuses_j14 : (Rows.diagramRefusesRow.ifaces == (Tryz.f7.params.toList ++ Rows.diagramRefusesSpec.plain.varTypes Tryz.prog).any (Tryz.prog.ifacesRec ·)) = true := by kernel_rfl
theorem diagramRefuses_j15 : (Rows.diagramRefusesRow.mapsOut == Tryz.prog.mapsAmong Tryz.f7.resultTypes.toList) = true := by kernel_rfl
theorem diagramRefuses_j16 : (Rows.diagramRefusesRow.loops == (Tryz.f7.params.toList ++ Rows.diagramRefusesSpec.plain.varTypes Tryz.prog).any (Tryz.prog.loopsFrom ·)) = true := by kernel_rfl
theorem diagramRefuses_j17 : (Rows.diagramRefusesRow.wideKeys == (Tryz.f7.params.toList ++ Rows.diagramRefusesSpec.plain.varTypes Tryz.prog ++ Tryz.f7.resultTypes.toList).any (Tryz.prog.wideKeysFrom ·)) = true := by kernel_rfl
theorem diagramRefuses_j18 : Rows.diagramRefusesSpec.vars.all (Tryz.prog.varReadable ·) = true := by kernel_rfl
theorem diagramRefuses_j19 : Tryz.f7.resultTypes.all (fun t => Tryz.prog.readableRec t && decide (t < Tryz.prog.types.size)) = true := by kernel_rfl
theorem diagramRefuses_j20 : (Rows.diagramRefusesRow.ifacesOut == Tryz.f7.resultTypes.toList.any (Tryz.prog.ifacesRec ·)) = true := by kernel_rfl
theorem diagramRefuses_j21 : (Rows.diagramRefusesRow.loopsOut == Tryz.f7.resultTypes.toList.any (Tryz.prog.loopsFrom ·)) = true := by kernel_rfl
theorem diagramRefuses_j22 : (Rows.diagramRefusesRow.plainKeys == Tryz.prog.plainKeys) = true := by kernel_rfl
theorem diagramRefuses_j23 : Rows.diagramRefusesRow.shortTexts.isNone = true := by kernel_rfl
theorem diagramRefuses_j26 : (Rows.diagramRefusesRow.lifted == Tryz.prog.liftsFinal) = true := by kernel_rfl
theorem diagramRefuses_j27 : (Tryz.prog.make == some Rows.diagramRefusesRow.make) = true := by kernel_rfl
theorem diagramRefuses_j28 : (Rows.diagramRefusesRow.kinds == (if Rows.diagramRefusesRow.domain.isEmpty then [] else Tryz.f7.params.toList.map fun t => match Tryz.prog.underlying t with | some (.int k) => some k | _ => none)) = true := by kernel_rfl
theorem diagramRefuses_j29 : (Rows.diagramRefusesRow.pinned == Rows.diagramRefusesRow.pinnedBy) = true := by kernel_rfl
theorem diagramRefuses_j30 : (Rows.diagramRefusesRow.veiled == (Tryz.f7.params.toList ++ Rows.diagramRefusesSpec.plain.varTypes Tryz.prog ++ Tryz.f7.resultTypes.toList).any (Tryz.prog.veiledRec ·)) = true := by kernel_rfl
theorem diagramRefuses_j31 : Rows.diagramRefusesRow.veiledFits Tryz.prog Tryz.f7.params.toList (Tryz.f7.params.toList ++ Rows.diagramRefusesSpec.plain.varTypes Tryz.prog ++ Tryz.f7.resultTypes.toList) = true := by kernel_rfl
set_option maxRecDepth 100000 in
theorem diagramRefuses_facts : joinedFacts Tryz.prog 7 Tryz.f7 Rows.diagramRefusesSpec Rows.diagramRefusesRow = true :=
  and1 (and1 (and1 (and1 (and1 (and1 (and1 (and1 (and1 (and1 (and1 (and1 (and1 (and1 (and1 (and1 (and1 (and1 (and1 (and1 (and1 (and1 (and1 (and1 (and1 (and1 (and1 (and1 (and1 (and1 (and1 (diagramRefuses_j0) laidOut) jRowed) diagramRefuses_j3) diagramRefuses_j4) diagramRefuses_j5) jStops) diagramRefuses_j7) jKnobs) diagramRefuses_j9) diagramRefuses_j10) diagramRefuses_j11) diagramRefuses_j12) diagramRefuses_j13) diagramRefuses_j14) diagramRefuses_j15) diagramRefuses_j16) diagramRefuses_j17) diagramRefuses_j18) diagramRefuses_j19) diagramRefuses_j20) diagramRefuses_j21) diagramRefuses_j22) diagramRefuses_j23) jHeard) jEnter) diagramRefuses_j26) diagramRefuses_j27) diagramRefuses_j28) diagramRefuses_j29) diagramRefuses_j30) diagramRefuses_j31
theorem diagramRefuses_fn : Tryz.prog.funcNamed Rows.diagramRefusesRow.func = some 7 := by kernel_rfl
theorem diagramRefuses_inst : Tryz.f7.isInstance Tryz.prog Rows.diagramRefusesRow.origin Rows.diagramRefusesRow.targs := of_decide_eq_true (by kernel_rfl)
theorem diagramRefuses_wrap : Tryz.f7.isWrapper Tryz.prog Rows.diagramRefusesRow.wrapper Rows.diagramRefusesRow.mainSum := by
  unfold Func.isWrapper; first | (rw [if_pos (by decide +kernel)]; kernel_rfl) | (rw [if_neg (by decide +kernel)]; exact ⟨rfl, rfl⟩)
theorem diagramRefuses_text : Rows.diagramRefusesRow.wfByText (OpenSpec.ofChange Rows.diagramRefusesSpec) = true := by kernel_rfl
theorem diagramRefuses_main : Tryz.pinned.checked.prog.mainIs = some (true, "dbfb770137cd3a53e4568a461c6b3edeab2001f82372e9ca265d6da6bd306e12".toList) := by kernel_rfl
theorem diagramRefuses_goes : false = Rows.diagramRefusesRow.goesBy Tryz.pinned.checked.prog := by kernel_rfl
theorem diagramRefuses_stand : ([34, 34, 27].all fun u => !Tryz.prog.wantsStandIn u) = true := by kernel_rfl
set_option maxRecDepth 100000 in
theorem diagramRefuses_looks : ∀ f fn, Tryz.prog.funcNamed Rows.diagramRefusesRow.func = some f → Tryz.prog.funcs[f]? = some fn → true = Tryz.prog.looks [] ∧ ∀ (j : Nat) t, fn.params[j]? = some t → Tryz.prog.wantsStandIn t = false := by
  intro f fn hf hfn
  obtain rfl : f = 7 := (Option.some.inj (diagramRefuses_fn.symm.trans hf)).symm
  obtain rfl : fn = Tryz.f7 := (Option.some.inj (Tryz.func7.symm.trans hfn)).symm
  refine ⟨jLooks, fun j t ht => ?_⟩
  rw [paramsDiagramRefuses] at ht
  have hm : t ∈ [34, 34, 27] := by simpa using Array.mem_of_getElem? ht
  simpa using List.all_eq_true.1 diagramRefuses_stand t hm
end Go.Proofs.YtejbgoigkefnfaaGreatDoor
