/- DiagramForm: closed facts of its row, its shown start. No conditions. -/
import Derived.Test.YtejbgoigkefnfaaGreatDoorDgWit
set_option maxRecDepth 100000
namespace Go.Proofs.YtejbgoigkefnfaaGreatDoor
open Go Go.ChangeShapes Go.WideShapes Go.ChangeAt Go.RowKit
theorem paramsDiagramForm : Tryz.f6.params = #[24, 27] := by kernel_rfl
theorem resultsDiagramForm : Tryz.f6.resultTypes = #[4] := by kernel_rfl
theorem diagramForm_witness (os : Os) {H : Type} (enc : TypeId × Value -> H) : ∃ (w : World) (tape : Tape) (i : Input), w.os = os /\ (w.forCall tape i).Shaped Tryz.checked.prog /\ i.vars = [] /\ Input.okWide Tryz.checked.prog (w.forCall tape i) .any w.heap.size 6 i /\
  ((Rows.diagramFormSpec.pre enc Tryz.checked.prog Tryz.f6 [] false (w.forCall tape i).memory i.args /\ laidMetH Tryz.prog laid5 (w.forCall tape i).memory) /\ sizedMet enc Tryz.checked.prog Tryz.f6 (OpenSpec.ofChange Rows.diagramFormSpec) false (w.forCall tape i).memory i.args) /\ ({} : Assume).holds Tryz.checked.prog (lone (Frame.enter Tryz.checked.prog 6 i.args .normal) [] (w.forCall tape i)) :=
 ChangeSpec.witness_shaped (enc := enc) (C := Tryz.checked) (os := os) (X := fun w _ => laidMetH Tryz.prog laid5 w) false (World.doorLaid Tryz.prog 2000 os) #[.agg #[.int .i64 0, .string ⟨#[]⟩, .int .i64 0, .int .i64 0, .slice none 0 0], .agg #[.slice none 0 0]] 8 rfl (World.shaped_of_RefB (by kernel_rfl) (by kernel_rfl)) (by kernel_rfl) (by kernel_rfl) (by kernel_rfl) (door_met os _)
theorem diagramForm_j0 : Rows.diagramFormRow.wf (OpenSpec.ofChange Rows.diagramFormSpec) = true := by kernel_rfl
theorem diagramForm_j3 : Tryz.f6.params.all (Tryz.prog.readableRec ·) = true := by kernel_rfl
theorem diagramForm_j4 : namedTie Tryz.prog Rows.diagramFormRow.named Rows.diagramFormSpec.vars = true := by kernel_rfl
theorem diagramForm_j5 : (Rows.diagramFormRow.stops == []) = true := by kernel_rfl
theorem diagramForm_j7 : (Rows.diagramFormRow.knobs == []) = true := by kernel_rfl
theorem diagramForm_j9 : (Rows.diagramFormRow.inPlace == Tryz.prog.inPlace 6) = true := by kernel_rfl
theorem diagramForm_j10 : (Rows.diagramFormRow.unfollowed == Tryz.prog.unfollowed 6) = true := by kernel_rfl
theorem diagramForm_j11 : (Rows.diagramFormRow.recurses == Tryz.prog.recurses 6) = true := by kernel_rfl
theorem diagramForm_j12 : (Rows.diagramFormRow.named == Tryz.prog.varsNamed 6) = true := by kernel_rfl
theorem diagramForm_j13 : (Rows.diagramFormRow.maps == (Tryz.f6.params.toList ++ Rows.diagramFormSpec.plain.varTypes Tryz.prog).any (Tryz.prog.mapsRec ·)) = true := by kernel_rfl
theorem diagramForm_j14 : (Rows.diagramFormRow.ifaces == (Tryz.f6.params.toList ++ Rows.diagramFormSpec.plain.varTypes Tryz.prog).any (Tryz.prog.ifacesRec ·)) = true := by kernel_rfl
theorem diagramForm_j15 : (Rows.diagramFormRow.mapsOut == Tryz.prog.mapsAmong Tryz.f6.resultTypes.toList) = true := by kernel_rfl
theorem diagramForm_j16 : (Rows.diagramFormRow.loops == (Tryz.f6.params.toList ++ Rows.diagramFormSpec.plain.varTypes Tryz.prog).any (Tryz.prog.loopsFrom ·)) = true := by kernel_rfl
theorem diagramForm_j17 : (Rows.diagramFormRow.wideKeys == (Tryz.f6.params.toList ++ Rows.diagramFormSpec.plain.varTypes Tryz.prog ++ Tryz.f6.resultTypes.toList).any (Tryz.prog.wideKeysFrom ·)) = true := by kernel_rfl
theorem diagramForm_j18 : Rows.diagramFormSpec.vars.all (Tryz.prog.varReadable ·) = true := by kernel_rfl
theorem diagramForm_j19 : Tryz.f6.resultTypes.all (fun t => Tryz.prog.readableRec t && decide (t < Tryz.prog.types.size)) = true := by kernel_rfl
theorem diagramForm_j20 : (Rows.diagramFormRow.ifacesOut == Tryz.f6.resultTypes.toList.any (Tryz.prog.ifacesRec ·)) = true := by kernel_rfl
theorem diagramForm_j21 : (Rows.diagramFormRow.loopsOut == Tryz.f6.resultTypes.toList.any (Tryz.prog.loopsFrom ·)) = true := by kernel_rfl
theorem diagramForm_j22 : (Rows.diagramFormRow.plainKeys == Tryz.prog.plainKeys) = true := by kernel_rfl
theorem diagramForm_j23 : Rows.diagramFormRow.shortTexts.isNone = true := by kernel_rfl
theorem diagramForm_j26 : (Rows.diagramFormRow.lifted == Tryz.prog.liftsFinal) = true := by kernel_rfl
theorem diagramForm_j27 : (Tryz.prog.make == some Rows.diagramFormRow.make) = true := by kernel_rfl
theorem diagramForm_j28 : (Rows.diagramFormRow.kinds == (if Rows.diagramFormRow.domain.isEmpty then [] else Tryz.f6.params.toList.map fun t => match Tryz.prog.underlying t with | some (.int k) => some k | _ => none)) = true := by kernel_rfl
theorem diagramForm_j29 : (Rows.diagramFormRow.pinned == Rows.diagramFormRow.pinnedBy) = true := by kernel_rfl
theorem diagramForm_j30 : (Rows.diagramFormRow.veiled == (Tryz.f6.params.toList ++ Rows.diagramFormSpec.plain.varTypes Tryz.prog ++ Tryz.f6.resultTypes.toList).any (Tryz.prog.veiledRec ·)) = true := by kernel_rfl
theorem diagramForm_j31 : Rows.diagramFormRow.veiledFits Tryz.prog Tryz.f6.params.toList (Tryz.f6.params.toList ++ Rows.diagramFormSpec.plain.varTypes Tryz.prog ++ Tryz.f6.resultTypes.toList) = true := by kernel_rfl
theorem diagramForm_facts : joinedFacts Tryz.prog 6 Tryz.f6 Rows.diagramFormSpec Rows.diagramFormRow = true :=
 and1 (and1 (and1 (and1 (and1 (and1 (and1 (and1 (and1 (and1 (and1 (and1 (and1 (and1 (and1 (and1 (and1 (and1 (and1 (and1 (and1 (and1 (and1 (and1 (and1 (and1 (and1 (and1 (and1 (and1 (and1 (diagramForm_j0) laidOut) jRowed) diagramForm_j3) diagramForm_j4) diagramForm_j5) jStops) diagramForm_j7) jKnobs) diagramForm_j9) diagramForm_j10) diagramForm_j11) diagramForm_j12) diagramForm_j13) diagramForm_j14) diagramForm_j15) diagramForm_j16) diagramForm_j17) diagramForm_j18) diagramForm_j19) diagramForm_j20) diagramForm_j21) diagramForm_j22) diagramForm_j23) jHeard) jEnter) diagramForm_j26) diagramForm_j27) diagramForm_j28) diagramForm_j29) diagramForm_j30) diagramForm_j31
theorem diagramForm_fn : Tryz.prog.funcNamed Rows.diagramFormRow.func = some 6 := by kernel_rfl
theorem diagramForm_inst : Tryz.f6.isInstance Tryz.prog Rows.diagramFormRow.origin Rows.diagramFormRow.targs := of_decide_eq_true (by kernel_rfl)
theorem diagramForm_wrap : Tryz.f6.isWrapper Tryz.prog Rows.diagramFormRow.wrapper Rows.diagramFormRow.mainSum := by
 unfold Func.isWrapper; first | (rw [if_pos (by decide +kernel)]; kernel_rfl) | (rw [if_neg (by decide +kernel)]; exact ⟨rfl, rfl⟩)
theorem diagramForm_text : Rows.diagramFormRow.wfByText (OpenSpec.ofChange Rows.diagramFormSpec) = true := by kernel_rfl
theorem diagramForm_main : Tryz.pinned.checked.prog.mainIs = some (true, "dbfb770137cd3a53e4568a461c6b3edeab2001f82372e9ca265d6da6bd306e12".toList) := by kernel_rfl
theorem diagramForm_goes : false = Rows.diagramFormRow.goesBy Tryz.pinned.checked.prog := by kernel_rfl
theorem diagramForm_stand : ([24, 27].all fun u => !Tryz.prog.wantsStandIn u) = true := by kernel_rfl
theorem diagramForm_looks : ∀ f fn, Tryz.prog.funcNamed Rows.diagramFormRow.func = some f -> Tryz.prog.funcs[f]? = some fn -> true = Tryz.prog.looks [] /\ ∀ (j : Nat) t, fn.params[j]? = some t -> Tryz.prog.wantsStandIn t = false := by
 intro f fn hf hfn; obtain rfl : f = 6 := (Option.some.inj (diagramForm_fn.symm.trans hf)).symm; obtain rfl : fn = Tryz.f6 := (Option.some.inj (Tryz.func6.symm.trans hfn)).symm; refine ⟨jLooks, fun j t ht => ?_⟩; rw [paramsDiagramForm] at ht; have hm : t ∈ [24, 27] := by simpa using Array.mem_of_getElem? ht
 simpa using List.all_eq_true.1 diagramForm_stand t hm
end Go.Proofs.YtejbgoigkefnfaaGreatDoor
