/- DiagramLeast: closed facts of its row, its shown start. No conditions. -/
import Derived.Test.YtejbgoigkefnfaaGreatDoorDgWit
namespace Go.Proofs.YtejbgoigkefnfaaGreatDoor
open Go Go.ChangeShapes Go.WideShapes Go.ChangeAt Go.RowKit

theorem paramsDiagramLeast : Tryz.f4.params = #[24, 27, 29] := by kernel_rfl
theorem resultsDiagramLeast : Tryz.f4.resultTypes = #[4] := by kernel_rfl

set_option maxRecDepth 100000 in
theorem diagramLeast_witness (os : Os) {H : Type} (enc : TypeId × Value → H) : ∃ (w : World) (tape : Tape) (i : Input), w.os = os ∧ (w.forCall tape i).Shaped Tryz.checked.prog ∧ i.vars = [] ∧ Input.okWide Tryz.checked.prog (w.forCall tape i) .any w.heap.size 4 i ∧
    ((Rows.diagramLeastSpec.pre enc Tryz.checked.prog Tryz.f4 [] false (w.forCall tape i).memory i.args ∧ laidMetH Tryz.prog laid5 (w.forCall tape i).memory) ∧ sizedMet enc Tryz.checked.prog Tryz.f4 (OpenSpec.ofChange Rows.diagramLeastSpec) false (w.forCall tape i).memory i.args) ∧ ({} : Assume).holds Tryz.checked.prog (lone (Frame.enter Tryz.checked.prog 4 i.args .normal) [] (w.forCall tape i)) :=
  ChangeSpec.witness_shaped (enc := enc) (C := Tryz.checked) (os := os) (X := fun w _ => laidMetH Tryz.prog laid5 w) false (World.doorLaid Tryz.prog 2000 os) #[.agg #[.int .i64 0, .string ⟨#[]⟩, .int .i64 0, .int .i64 0, .slice none 0 0], .agg #[.slice none 0 0], .slice none 0 0] 8 rfl (World.shaped_of_RefB (by kernel_rfl) (by kernel_rfl)) (by kernel_rfl) (by kernel_rfl) (by kernel_rfl) (door_met os _)
theorem diagramLeast_j0 : Rows.diagramLeastRow.wf (OpenSpec.ofChange Rows.diagramLeastSpec) = true := by kernel_rfl
theorem diagramLeast_j3 : Tryz.f4.params.all (Tryz.prog.readableRec ·) = true := by kernel_rfl
theorem diagramLeast_j4 : namedTie Tryz.prog Rows.diagramLeastRow.named Rows.diagramLeastSpec.vars = true := by kernel_rfl
theorem diagramLeast_j5 : (Rows.diagramLeastRow.stops == []) = true := by kernel_rfl
theorem diagramLeast_j7 : (Rows.diagramLeastRow.knobs == []) = true := by kernel_rfl
theorem diagramLeast_j9 : (Rows.diagramLeastRow.inPlace == Tryz.prog.inPlace 4) = true := by kernel_rfl
theorem diagramLeast_j10 : (Rows.diagramLeastRow.unfollowed == Tryz.prog.unfollowed 4) = true := by kernel_rfl
theorem diagramLeast_j11 : (Rows.diagramLeastRow.recurses == Tryz.prog.recurses 4) = true := by kernel_rfl
theorem diagramLeast_j12 : (Rows.diagramLeastRow.named == Tryz.prog.varsNamed 4) = true := by kernel_rfl
theorem diagramLeast_j13 : (Rows.diagramLeastRow.maps == (Tryz.f4.params.toList ++ Rows.diagramLeastSpec.plain.varTypes Tryz.prog).any (Tryz.prog.mapsRec ·)) = true := by kernel_rfl
theorem diagramLeast_j14 : (Rows.diagramLeastRow.ifaces == (Tryz.f4.params.toList ++ Rows.diagramLeastSpec.plain.varTypes Tryz.prog).any (Tryz.prog.ifacesRec ·)) = true := by kernel_rfl
theorem diagramLeast_j15 : (Rows.diagramLeastRow.mapsOut == Tryz.prog.mapsAmong Tryz.f4.resultTypes.toList) = true := by kernel_rfl
theorem diagramLeast_j16 : (Rows.diagramLeastRow.loops == (Tryz.f4.params.toList ++ Rows.diagramLeastSpec.plain.varTypes Tryz.prog).any (Tryz.prog.loopsFrom ·)) = true := by kernel_rfl
theorem diagramLeast_j17 : (Rows.diagramLeastRow.wideKeys == (Tryz.f4.params.toList ++ Rows.diagramLeastSpec.plain.varTypes Tryz.prog ++ Tryz.f4.resultTypes.toList).any (Tryz.prog.wideKeysFrom ·)) = true := by kernel_rfl
theorem diagramLeast_j18 : Rows.diagramLeastSpec.vars.all (Tryz.prog.varReadable ·) = true := by kernel_rfl
theorem diagramLeast_j19 : Tryz.f4.resultTypes.all (fun t => Tryz.prog.readableRec t && decide (t < Tryz.prog.types.size)) = true := by kernel_rfl
theorem diagramLeast_j20 : (Rows.diagramLeastRow.ifacesOut == Tryz.f4.resultTypes.toList.any (Tryz.prog.ifacesRec ·)) = true := by kernel_rfl
theorem diagramLeast_j21 : (Rows.diagramLeastRow.loopsOut == Tryz.f4.resultTypes.toList.any (Tryz.prog.loopsFrom ·)) = true := by kernel_rfl
theorem diagramLeast_j22 : (Rows.diagramLeastRow.plainKeys == Tryz.prog.plainKeys) = true := by kernel_rfl
theorem diagramLeast_j23 : Rows.diagramLeastRow.shortTexts.isNone = true := by kernel_rfl
theorem diagramLeast_j26 : (Rows.diagramLeastRow.lifted == Tryz.prog.liftsFinal) = true := by kernel_rfl
theorem diagramLeast_j27 : (Tryz.prog.make == some Rows.diagramLeastRow.make) = true := by kernel_rfl
theorem diagramLeast_j28 : (Rows.diagramLeastRow.kinds == (if Rows.diagramLeastRow.domain.isEmpty then [] else Tryz.f4.params.toList.map fun t => match Tryz.prog.underlying t with | some (.int k) => some k | _ => none)) = true := by kernel_rfl
theorem diagramLeast_j29 : (Rows.diagramLeastRow.pinned == Rows.diagramLeastRow.pinnedBy) = true := by kernel_rfl
theorem diagramLeast_j30 : (Rows.diagramLeastRow.veiled == (Tryz.f4.params.toList ++ Rows.diagramLeastSpec.plain.varTypes Tryz.prog ++ Tryz.f4.resultTypes.toList).any (Tryz.prog.veiledRec ·)) = true := by kernel_rfl
theorem diagramLeast_j31 : Rows.diagramLeastRow.veiledFits Tryz.prog Tryz.f4.params.toList (Tryz.f4.params.toList ++ Rows.diagramLeastSpec.plain.varTypes Tryz.prog ++ Tryz.f4.resultTypes.toList) = true := by kernel_rfl
set_option maxRecDepth 100000 in
theorem diagramLeast_facts : joinedFacts Tryz.prog 4 Tryz.f4 Rows.diagramLeastSpec Rows.diagramLeastRow = true :=
  and1 (and1 (and1 (and1 (and1 (and1 (and1 (and1 (and1 (and1 (and1 (and1 (and1 (and1 (and1 (and1 (and1 (and1 (and1 (and1 (and1 (and1 (and1 (and1 (and1 (and1 (and1 (and1 (and1 (and1 (and1 (diagramLeast_j0) laidOut) jRowed) diagramLeast_j3) diagramLeast_j4) diagramLeast_j5) jStops) diagramLeast_j7) jKnobs) diagramLeast_j9) diagramLeast_j10) diagramLeast_j11) diagramLeast_j12) diagramLeast_j13) diagramLeast_j14) diagramLeast_j15) diagramLeast_j16) diagramLeast_j17) diagramLeast_j18) diagramLeast_j19) diagramLeast_j20) diagramLeast_j21) diagramLeast_j22) diagramLeast_j23) jHeard) jEnter) diagramLeast_j26) diagramLeast_j27) diagramLeast_j28) diagramLeast_j29) diagramLeast_j30) diagramLeast_j31
theorem diagramLeast_fn : Tryz.prog.funcNamed Rows.diagramLeastRow.func = some 4 := by kernel_rfl
theorem diagramLeast_inst : Tryz.f4.isInstance Tryz.prog Rows.diagramLeastRow.origin Rows.diagramLeastRow.targs := of_decide_eq_true (by kernel_rfl)
theorem diagramLeast_wrap : Tryz.f4.isWrapper Tryz.prog Rows.diagramLeastRow.wrapper Rows.diagramLeastRow.mainSum := by
  unfold Func.isWrapper; first | (rw [if_pos (by decide +kernel)]; kernel_rfl) | (rw [if_neg (by decide +kernel)]; exact ⟨rfl, rfl⟩)
theorem diagramLeast_text : Rows.diagramLeastRow.wfByText (OpenSpec.ofChange Rows.diagramLeastSpec) = true := by kernel_rfl
theorem diagramLeast_main : Tryz.pinned.checked.prog.mainIs = some (true, "dbfb770137cd3a53e4568a461c6b3edeab2001f82372e9ca265d6da6bd306e12".toList) := by kernel_rfl
theorem diagramLeast_goes : false = Rows.diagramLeastRow.goesBy Tryz.pinned.checked.prog := by kernel_rfl
theorem diagramLeast_stand : ([24, 27, 29].all fun u => !Tryz.prog.wantsStandIn u) = true := by kernel_rfl
set_option maxRecDepth 100000 in
theorem diagramLeast_looks : ∀ f fn, Tryz.prog.funcNamed Rows.diagramLeastRow.func = some f → Tryz.prog.funcs[f]? = some fn → true = Tryz.prog.looks [] ∧ ∀ (j : Nat) t, fn.params[j]? = some t → Tryz.prog.wantsStandIn t = false := by
  intro f fn hf hfn
  obtain rfl : f = 4 := (Option.some.inj (diagramLeast_fn.symm.trans hf)).symm
  obtain rfl : fn = Tryz.f4 := (Option.some.inj (Tryz.func4.symm.trans hfn)).symm
  refine ⟨jLooks, fun j t ht => ?_⟩
  rw [paramsDiagramLeast] at ht
  have hm : t ∈ [24, 27, 29] := by simpa using Array.mem_of_getElem? ht
  simpa using List.all_eq_true.1 diagramLeast_stand t hm
end Go.Proofs.YtejbgoigkefnfaaGreatDoor
