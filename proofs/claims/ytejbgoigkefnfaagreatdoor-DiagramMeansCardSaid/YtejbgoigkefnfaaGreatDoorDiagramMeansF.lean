/- DiagramMeans: closed facts of its row, its shown start. No conditions. -/
import Derived.Test.YtejbgoigkefnfaaGreatDoorDgWit
namespace Go.Proofs.YtejbgoigkefnfaaGreatDoor
open Go Go.ChangeShapes Go.WideShapes Go.ChangeAt Go.RowKit

theorem paramsDiagramMeans : Tryz.f3.params = #[24, 27, 29] := by kernel_rfl
theorem resultsDiagramMeans : Tryz.f3.resultTypes = #[4] := by kernel_rfl

set_option maxRecDepth 100000 in
theorem diagramMeans_witness (os : Os) {H : Type} (enc : TypeId × Value → H) : ∃ (w : World) (tape : Tape) (i : Input), w.os = os ∧ (w.forCall tape i).Shaped Tryz.checked.prog ∧ i.vars = [] ∧ Input.okWide Tryz.checked.prog (w.forCall tape i) .any w.heap.size 3 i ∧
    ((Rows.diagramMeansSpec.pre enc Tryz.checked.prog Tryz.f3 [] false (w.forCall tape i).memory i.args ∧ laidMetH Tryz.prog laid5 (w.forCall tape i).memory) ∧ sizedMet enc Tryz.checked.prog Tryz.f3 (OpenSpec.ofChange Rows.diagramMeansSpec) false (w.forCall tape i).memory i.args) ∧ ({} : Assume).holds Tryz.checked.prog (lone (Frame.enter Tryz.checked.prog 3 i.args .normal) [] (w.forCall tape i)) :=
  ChangeSpec.witness_shaped (enc := enc) (C := Tryz.checked) (os := os) (X := fun w _ => laidMetH Tryz.prog laid5 w) false (World.doorLaid Tryz.prog 2000 os) #[.agg #[.int .i64 0, .string ⟨#[]⟩, .int .i64 0, .int .i64 0, .slice none 0 0], .agg #[.slice none 0 0], .slice none 0 0] 8 rfl (World.shaped_of_RefB (by kernel_rfl) (by kernel_rfl)) (by kernel_rfl) (by kernel_rfl) (by kernel_rfl) (door_met os _)
theorem diagramMeans_j0 : Rows.diagramMeansRow.wf (OpenSpec.ofChange Rows.diagramMeansSpec) = true := by kernel_rfl
theorem diagramMeans_j3 : Tryz.f3.params.all (Tryz.prog.readableRec ·) = true := by kernel_rfl
theorem diagramMeans_j4 : namedTie Tryz.prog Rows.diagramMeansRow.named Rows.diagramMeansSpec.vars = true := by kernel_rfl
theorem diagramMeans_j5 : (Rows.diagramMeansRow.stops == []) = true := by kernel_rfl
theorem diagramMeans_j7 : (Rows.diagramMeansRow.knobs == []) = true := by kernel_rfl
theorem diagramMeans_j9 : (Rows.diagramMeansRow.inPlace == Tryz.prog.inPlace 3) = true := by kernel_rfl
theorem diagramMeans_j10 : (Rows.diagramMeansRow.unfollowed == Tryz.prog.unfollowed 3) = true := by kernel_rfl
theorem diagramMeans_j11 : (Rows.diagramMeansRow.recurses == Tryz.prog.recurses 3) = true := by kernel_rfl
theorem diagramMeans_j12 : (Rows.diagramMeansRow.named == Tryz.prog.varsNamed 3) = true := by kernel_rfl
theorem diagramMeans_j13 : (Rows.diagramMeansRow.maps == (Tryz.f3.params.toList ++ Rows.diagramMeansSpec.plain.varTypes Tryz.prog).any (Tryz.prog.mapsRec ·)) = true := by kernel_rfl
theorem diagramMeans_j14 : (Rows.diagramMeansRow.ifaces == (Tryz.f3.params.toList ++ Rows.diagramMeansSpec.plain.varTypes Tryz.prog).any (Tryz.prog.ifacesRec ·)) = true := by kernel_rfl
theorem diagramMeans_j15 : (Rows.diagramMeansRow.mapsOut == Tryz.prog.mapsAmong Tryz.f3.resultTypes.toList) = true := by kernel_rfl
theorem diagramMeans_j16 : (Rows.diagramMeansRow.loops == (Tryz.f3.params.toList ++ Rows.diagramMeansSpec.plain.varTypes Tryz.prog).any (Tryz.prog.loopsFrom ·)) = true := by kernel_rfl
theorem diagramMeans_j17 : (Rows.diagramMeansRow.wideKeys == (Tryz.f3.params.toList ++ Rows.diagramMeansSpec.plain.varTypes Tryz.prog ++ Tryz.f3.resultTypes.toList).any (Tryz.prog.wideKeysFrom ·)) = true := by kernel_rfl
theorem diagramMeans_j18 : Rows.diagramMeansSpec.vars.all (Tryz.prog.varReadable ·) = true := by kernel_rfl
theorem diagramMeans_j19 : Tryz.f3.resultTypes.all (fun t => Tryz.prog.readableRec t && decide (t < Tryz.prog.types.size)) = true := by kernel_rfl
theorem diagramMeans_j20 : (Rows.diagramMeansRow.ifacesOut == Tryz.f3.resultTypes.toList.any (Tryz.prog.ifacesRec ·)) = true := by kernel_rfl
theorem diagramMeans_j21 : (Rows.diagramMeansRow.loopsOut == Tryz.f3.resultTypes.toList.any (Tryz.prog.loopsFrom ·)) = true := by kernel_rfl
theorem diagramMeans_j22 : (Rows.diagramMeansRow.plainKeys == Tryz.prog.plainKeys) = true := by kernel_rfl
theorem diagramMeans_j23 : Rows.diagramMeansRow.shortTexts.isNone = true := by kernel_rfl
theorem diagramMeans_j26 : (Rows.diagramMeansRow.lifted == Tryz.prog.liftsFinal) = true := by kernel_rfl
theorem diagramMeans_j27 : (Tryz.prog.make == some Rows.diagramMeansRow.make) = true := by kernel_rfl
theorem diagramMeans_j28 : (Rows.diagramMeansRow.kinds == (if Rows.diagramMeansRow.domain.isEmpty then [] else Tryz.f3.params.toList.map fun t => match Tryz.prog.underlying t with | some (.int k) => some k | _ => none)) = true := by kernel_rfl
theorem diagramMeans_j29 : (Rows.diagramMeansRow.pinned == Rows.diagramMeansRow.pinnedBy) = true := by kernel_rfl
theorem diagramMeans_j30 : (Rows.diagramMeansRow.veiled == (Tryz.f3.params.toList ++ Rows.diagramMeansSpec.plain.varTypes Tryz.prog ++ Tryz.f3.resultTypes.toList).any (Tryz.prog.veiledRec ·)) = true := by kernel_rfl
theorem diagramMeans_j31 : Rows.diagramMeansRow.veiledFits Tryz.prog Tryz.f3.params.toList (Tryz.f3.params.toList ++ Rows.diagramMeansSpec.plain.varTypes Tryz.prog ++ Tryz.f3.resultTypes.toList) = true := by kernel_rfl
set_option maxRecDepth 100000 in
theorem diagramMeans_facts : joinedFacts Tryz.prog 3 Tryz.f3 Rows.diagramMeansSpec Rows.diagramMeansRow = true :=
  and1 (and1 (and1 (and1 (and1 (and1 (and1 (and1 (and1 (and1 (and1 (and1 (and1 (and1 (and1 (and1 (and1 (and1 (and1 (and1 (and1 (and1 (and1 (and1 (and1 (and1 (and1 (and1 (and1 (and1 (and1 (diagramMeans_j0) laidOut) jRowed) diagramMeans_j3) diagramMeans_j4) diagramMeans_j5) jStops) diagramMeans_j7) jKnobs) diagramMeans_j9) diagramMeans_j10) diagramMeans_j11) diagramMeans_j12) diagramMeans_j13) diagramMeans_j14) diagramMeans_j15) diagramMeans_j16) diagramMeans_j17) diagramMeans_j18) diagramMeans_j19) diagramMeans_j20) diagramMeans_j21) diagramMeans_j22) diagramMeans_j23) jHeard) jEnter) diagramMeans_j26) diagramMeans_j27) diagramMeans_j28) diagramMeans_j29) diagramMeans_j30) diagramMeans_j31
theorem diagramMeans_fn : Tryz.prog.funcNamed Rows.diagramMeansRow.func = some 3 := by kernel_rfl
theorem diagramMeans_inst : Tryz.f3.isInstance Tryz.prog Rows.diagramMeansRow.origin Rows.diagramMeansRow.targs := of_decide_eq_true (by kernel_rfl)
theorem diagramMeans_wrap : Tryz.f3.isWrapper Tryz.prog Rows.diagramMeansRow.wrapper Rows.diagramMeansRow.mainSum := by
  unfold Func.isWrapper; first | (rw [if_pos (by decide +kernel)]; kernel_rfl) | (rw [if_neg (by decide +kernel)]; exact ⟨rfl, rfl⟩)
theorem diagramMeans_text : Rows.diagramMeansRow.wfByText (OpenSpec.ofChange Rows.diagramMeansSpec) = true := by kernel_rfl
theorem diagramMeans_main : Tryz.pinned.checked.prog.mainIs = some (true, "dbfb770137cd3a53e4568a461c6b3edeab2001f82372e9ca265d6da6bd306e12".toList) := by kernel_rfl
theorem diagramMeans_goes : false = Rows.diagramMeansRow.goesBy Tryz.pinned.checked.prog := by kernel_rfl
theorem diagramMeans_stand : ([24, 27, 29].all fun u => !Tryz.prog.wantsStandIn u) = true := by kernel_rfl
set_option maxRecDepth 100000 in
theorem diagramMeans_looks : ∀ f fn, Tryz.prog.funcNamed Rows.diagramMeansRow.func = some f → Tryz.prog.funcs[f]? = some fn → true = Tryz.prog.looks [] ∧ ∀ (j : Nat) t, fn.params[j]? = some t → Tryz.prog.wantsStandIn t = false := by
  intro f fn hf hfn
  obtain rfl : f = 3 := (Option.some.inj (diagramMeans_fn.symm.trans hf)).symm
  obtain rfl : fn = Tryz.f3 := (Option.some.inj (Tryz.func3.symm.trans hfn)).symm
  refine ⟨jLooks, fun j t ht => ?_⟩
  rw [paramsDiagramMeans] at ht
  have hm : t ∈ [24, 27, 29] := by simpa using Array.mem_of_getElem? ht
  simpa using List.all_eq_true.1 diagramMeans_stand t hm
end Go.Proofs.YtejbgoigkefnfaaGreatDoor
