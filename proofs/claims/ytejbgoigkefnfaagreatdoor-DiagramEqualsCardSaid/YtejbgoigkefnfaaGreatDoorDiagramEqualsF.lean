/- DiagramEquals: closed facts of its row, its shown start. No conditions. -/
import Derived.Test.YtejbgoigkefnfaaGreatDoorDgWit
set_option maxRecDepth 100000
namespace Go.Proofs.YtejbgoigkefnfaaGreatDoor
open Go Go.ChangeShapes Go.WideShapes Go.ChangeAt Go.RowKit
theorem paramsDiagramEquals : Tryz.f9.params = #[24, 24, 27, 29] := by kernel_rfl
theorem resultsDiagramEquals : Tryz.f9.resultTypes = #[4] := by kernel_rfl
theorem diagramEquals_witness (os : Os) {H : Type} (enc : TypeId × Value -> H) : ∃ (w : World) (tape : Tape) (i : Input), w.os = os /\ (w.forCall tape i).Shaped Tryz.checked.prog /\ i.vars = [] /\ Input.okWide Tryz.checked.prog (w.forCall tape i) .any w.heap.size 9 i /\
  ((Rows.diagramEqualsSpec.pre enc Tryz.checked.prog Tryz.f9 [] false (w.forCall tape i).memory i.args /\ laidMetH Tryz.prog laid5 (w.forCall tape i).memory) /\ sizedMet enc Tryz.checked.prog Tryz.f9 (OpenSpec.ofChange Rows.diagramEqualsSpec) false (w.forCall tape i).memory i.args) /\ ({} : Assume).holds Tryz.checked.prog (lone (Frame.enter Tryz.checked.prog 9 i.args .normal) [] (w.forCall tape i)) :=
 ChangeSpec.witness_shaped (enc := enc) (C := Tryz.checked) (os := os) (X := fun w _ => laidMetH Tryz.prog laid5 w) false (World.doorLaid Tryz.prog 2000 os) #[.agg #[.int .i64 0, .string ⟨#[]⟩, .int .i64 0, .int .i64 0, .slice none 0 0], .agg #[.int .i64 0, .string ⟨#[]⟩, .int .i64 0, .int .i64 0, .slice none 0 0], .agg #[.slice none 0 0], .slice none 0 0] 8 rfl (World.shaped_of_RefB (by kernel_rfl) (by kernel_rfl)) (by kernel_rfl) (by kernel_rfl) (by kernel_rfl) (door_met os _)
theorem diagramEquals_j0 : Rows.diagramEqualsRow.wf (OpenSpec.ofChange Rows.diagramEqualsSpec) = true := by kernel_rfl
theorem diagramEquals_j3 : Tryz.f9.params.all (Tryz.prog.readableRec ·) = true := by kernel_rfl
theorem diagramEquals_j4 : namedTie Tryz.prog Rows.diagramEqualsRow.named Rows.diagramEqualsSpec.vars = true := by kernel_rfl
theorem diagramEquals_j5 : (Rows.diagramEqualsRow.stops == []) = true := by kernel_rfl
theorem diagramEquals_j7 : (Rows.diagramEqualsRow.knobs == []) = true := by kernel_rfl
theorem diagramEquals_j9 : (Rows.diagramEqualsRow.inPlace == Tryz.prog.inPlace 9) = true := by kernel_rfl
theorem diagramEquals_j10 : (Rows.diagramEqualsRow.unfollowed == Tryz.prog.unfollowed 9) = true := by kernel_rfl
theorem diagramEquals_j11 : (Rows.diagramEqualsRow.recurses == Tryz.prog.recurses 9) = true := by kernel_rfl
theorem diagramEquals_j12 : (Rows.diagramEqualsRow.named == Tryz.prog.varsNamed 9) = true := by kernel_rfl
theorem diagramEquals_j13 : (Rows.diagramEqualsRow.maps == (Tryz.f9.params.toList ++ Rows.diagramEqualsSpec.plain.varTypes Tryz.prog).any (Tryz.prog.mapsRec ·)) = true := by kernel_rfl
theorem diagramEquals_j14 : (Rows.diagramEqualsRow.ifaces == (Tryz.f9.params.toList ++ Rows.diagramEqualsSpec.plain.varTypes Tryz.prog).any (Tryz.prog.ifacesRec ·)) = true := by kernel_rfl
theorem diagramEquals_j15 : (Rows.diagramEqualsRow.mapsOut == Tryz.prog.mapsAmong Tryz.f9.resultTypes.toList) = true := by kernel_rfl
theorem diagramEquals_j16 : (Rows.diagramEqualsRow.loops == (Tryz.f9.params.toList ++ Rows.diagramEqualsSpec.plain.varTypes Tryz.prog).any (Tryz.prog.loopsFrom ·)) = true := by kernel_rfl
theorem diagramEquals_j17 : (Rows.diagramEqualsRow.wideKeys == (Tryz.f9.params.toList ++ Rows.diagramEqualsSpec.plain.varTypes Tryz.prog ++ Tryz.f9.resultTypes.toList).any (Tryz.prog.wideKeysFrom ·)) = true := by kernel_rfl
theorem diagramEquals_j18 : Rows.diagramEqualsSpec.vars.all (Tryz.prog.varReadable ·) = true := by kernel_rfl
theorem diagramEquals_j19 : Tryz.f9.resultTypes.all (fun t => Tryz.prog.readableRec t && decide (t < Tryz.prog.types.size)) = true := by kernel_rfl
theorem diagramEquals_j20 : (Rows.diagramEqualsRow.ifacesOut == Tryz.f9.resultTypes.toList.any (Tryz.prog.ifacesRec ·)) = true := by kernel_rfl
theorem diagramEquals_j21 : (Rows.diagramEqualsRow.loopsOut == Tryz.f9.resultTypes.toList.any (Tryz.prog.loopsFrom ·)) = true := by kernel_rfl
theorem diagramEquals_j22 : (Rows.diagramEqualsRow.plainKeys == Tryz.prog.plainKeys) = true := by kernel_rfl
theorem diagramEquals_j23 : Rows.diagramEqualsRow.shortTexts.isNone = true := by kernel_rfl
theorem diagramEquals_j26 : (Rows.diagramEqualsRow.lifted == Tryz.prog.liftsFinal) = true := by kernel_rfl
theorem diagramEquals_j27 : (Tryz.prog.make == some Rows.diagramEqualsRow.make) = true := by kernel_rfl
theorem diagramEquals_j28 : (Rows.diagramEqualsRow.kinds == (if Rows.diagramEqualsRow.domain.isEmpty then [] else Tryz.f9.params.toList.map fun t => match Tryz.prog.underlying t with | some (.int k) => some k | _ => none)) = true := by kernel_rfl
theorem diagramEquals_j29 : (Rows.diagramEqualsRow.pinned == Rows.diagramEqualsRow.pinnedBy) = true := by kernel_rfl
theorem diagramEquals_j30 : (Rows.diagramEqualsRow.veiled == (Tryz.f9.params.toList ++ Rows.diagramEqualsSpec.plain.varTypes Tryz.prog ++ Tryz.f9.resultTypes.toList).any (Tryz.prog.veiledRec ·)) = true := by kernel_rfl
theorem diagramEquals_j31 : Rows.diagramEqualsRow.veiledFits Tryz.prog Tryz.f9.params.toList (Tryz.f9.params.toList ++ Rows.diagramEqualsSpec.plain.varTypes Tryz.prog ++ Tryz.f9.resultTypes.toList) = true := by kernel_rfl
theorem diagramEquals_facts : joinedFacts Tryz.prog 9 Tryz.f9 Rows.diagramEqualsSpec Rows.diagramEqualsRow = true :=
 and1 (and1 (and1 (and1 (and1 (and1 (and1 (and1 (and1 (and1 (and1 (and1 (and1 (and1 (and1 (and1 (and1 (and1 (and1 (and1 (and1 (and1 (and1 (and1 (and1 (and1 (and1 (and1 (and1 (and1 (and1 (diagramEquals_j0) laidOut) jRowed) diagramEquals_j3) diagramEquals_j4) diagramEquals_j5) jStops) diagramEquals_j7) jKnobs) diagramEquals_j9) diagramEquals_j10) diagramEquals_j11) diagramEquals_j12) diagramEquals_j13) diagramEquals_j14) diagramEquals_j15) diagramEquals_j16) diagramEquals_j17) diagramEquals_j18) diagramEquals_j19) diagramEquals_j20) diagramEquals_j21) diagramEquals_j22) diagramEquals_j23) jHeard) jEnter) diagramEquals_j26) diagramEquals_j27) diagramEquals_j28) diagramEquals_j29) diagramEquals_j30) diagramEquals_j31
theorem diagramEquals_fn : Tryz.prog.funcNamed Rows.diagramEqualsRow.func = some 9 := by kernel_rfl
theorem diagramEquals_inst : Tryz.f9.isInstance Tryz.prog Rows.diagramEqualsRow.origin Rows.diagramEqualsRow.targs := of_decide_eq_true (by kernel_rfl)
theorem diagramEquals_wrap : Tryz.f9.isWrapper Tryz.prog Rows.diagramEqualsRow.wrapper Rows.diagramEqualsRow.mainSum := by
 unfold Func.isWrapper; first | (rw [if_pos (by decide +kernel)]; kernel_rfl) | (rw [if_neg (by decide +kernel)]; exact ⟨rfl, rfl⟩)
theorem diagramEquals_text : Rows.diagramEqualsRow.wfByText (OpenSpec.ofChange Rows.diagramEqualsSpec) = true := by kernel_rfl
theorem diagramEquals_main : Tryz.pinned.checked.prog.mainIs = some (true, "dbfb770137cd3a53e4568a461c6b3edeab2001f82372e9ca265d6da6bd306e12".toList) := by kernel_rfl
theorem diagramEquals_goes : false = Rows.diagramEqualsRow.goesBy Tryz.pinned.checked.prog := by kernel_rfl
theorem diagramEquals_stand : ([24, 24, 27, 29].all fun u => !Tryz.prog.wantsStandIn u) = true := by kernel_rfl
theorem diagramEquals_looks : ∀ f fn, Tryz.prog.funcNamed Rows.diagramEqualsRow.func = some f -> Tryz.prog.funcs[f]? = some fn -> true = Tryz.prog.looks [] /\ ∀ (j : Nat) t, fn.params[j]? = some t -> Tryz.prog.wantsStandIn t = false := by
 intro f fn hf hfn; obtain rfl : f = 9 := (Option.some.inj (diagramEquals_fn.symm.trans hf)).symm; obtain rfl : fn = Tryz.f9 := (Option.some.inj (Tryz.func9.symm.trans hfn)).symm; refine ⟨jLooks, fun j t ht => ?_⟩; rw [paramsDiagramEquals] at ht; have hm : t ∈ [24, 24, 27, 29] := by simpa using Array.mem_of_getElem? ht
 simpa using List.all_eq_true.1 diagramEquals_stand t hm
end Go.Proofs.YtejbgoigkefnfaaGreatDoor
