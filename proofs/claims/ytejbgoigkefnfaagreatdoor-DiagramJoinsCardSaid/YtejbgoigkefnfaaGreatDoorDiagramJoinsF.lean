/- DiagramJoins: closed facts of its row, its shown start. No conditions. -/
import Derived.Test.YtejbgoigkefnfaaGreatDoorDgWit
set_option maxRecDepth 100000
namespace Go.Proofs.YtejbgoigkefnfaaGreatDoor
open Go Go.ChangeShapes Go.WideShapes Go.ChangeAt Go.RowKit
theorem paramsDiagramJoins : Tryz.f8.params = #[24, 24, 27, 29] := by kernel_rfl
theorem resultsDiagramJoins : Tryz.f8.resultTypes = #[4] := by kernel_rfl
theorem diagramJoins_witness (os : Os) {H : Type} (enc : TypeId × Value -> H) : ∃ (w : World) (tape : Tape) (i : Input), w.os = os /\ (w.forCall tape i).Shaped Tryz.checked.prog /\ i.vars = [] /\ Input.okWide Tryz.checked.prog (w.forCall tape i) .any w.heap.size 8 i /\
  ((Rows.diagramJoinsSpec.pre enc Tryz.checked.prog Tryz.f8 [] false (w.forCall tape i).memory i.args /\ laidMetH Tryz.prog laid5 (w.forCall tape i).memory) /\ sizedMet enc Tryz.checked.prog Tryz.f8 (OpenSpec.ofChange Rows.diagramJoinsSpec) false (w.forCall tape i).memory i.args) /\ ({} : Assume).holds Tryz.checked.prog (lone (Frame.enter Tryz.checked.prog 8 i.args .normal) [] (w.forCall tape i)) :=
 ChangeSpec.witness_shaped (enc := enc) (C := Tryz.checked) (os := os) (X := fun w _ => laidMetH Tryz.prog laid5 w) false (World.doorLaid Tryz.prog 2000 os) #[.agg #[.int .i64 0, .string ⟨#[]⟩, .int .i64 0, .int .i64 0, .slice none 0 0], .agg #[.int .i64 0, .string ⟨#[]⟩, .int .i64 0, .int .i64 0, .slice none 0 0], .agg #[.slice none 0 0], .slice none 0 0] 8 rfl (World.shaped_of_RefB (by kernel_rfl) (by kernel_rfl)) (by kernel_rfl) (by kernel_rfl) (by kernel_rfl) (door_met os _)
theorem diagramJoins_j0 : Rows.diagramJoinsRow.wf (OpenSpec.ofChange Rows.diagramJoinsSpec) = true := by kernel_rfl
theorem diagramJoins_j3 : Tryz.f8.params.all (Tryz.prog.readableRec ·) = true := by kernel_rfl
theorem diagramJoins_j4 : namedTie Tryz.prog Rows.diagramJoinsRow.named Rows.diagramJoinsSpec.vars = true := by kernel_rfl
theorem diagramJoins_j5 : (Rows.diagramJoinsRow.stops == []) = true := by kernel_rfl
theorem diagramJoins_j7 : (Rows.diagramJoinsRow.knobs == []) = true := by kernel_rfl
theorem diagramJoins_j9 : (Rows.diagramJoinsRow.inPlace == Tryz.prog.inPlace 8) = true := by kernel_rfl
theorem diagramJoins_j10 : (Rows.diagramJoinsRow.unfollowed == Tryz.prog.unfollowed 8) = true := by kernel_rfl
theorem diagramJoins_j11 : (Rows.diagramJoinsRow.recurses == Tryz.prog.recurses 8) = true := by kernel_rfl
theorem diagramJoins_j12 : (Rows.diagramJoinsRow.named == Tryz.prog.varsNamed 8) = true := by kernel_rfl
theorem diagramJoins_j13 : (Rows.diagramJoinsRow.maps == (Tryz.f8.params.toList ++ Rows.diagramJoinsSpec.plain.varTypes Tryz.prog).any (Tryz.prog.mapsRec ·)) = true := by kernel_rfl
theorem diagramJoins_j14 : (Rows.diagramJoinsRow.ifaces == (Tryz.f8.params.toList ++ Rows.diagramJoinsSpec.plain.varTypes Tryz.prog).any (Tryz.prog.ifacesRec ·)) = true := by kernel_rfl
theorem diagramJoins_j15 : (Rows.diagramJoinsRow.mapsOut == Tryz.prog.mapsAmong Tryz.f8.resultTypes.toList) = true := by kernel_rfl
theorem diagramJoins_j16 : (Rows.diagramJoinsRow.loops == (Tryz.f8.params.toList ++ Rows.diagramJoinsSpec.plain.varTypes Tryz.prog).any (Tryz.prog.loopsFrom ·)) = true := by kernel_rfl
theorem diagramJoins_j17 : (Rows.diagramJoinsRow.wideKeys == (Tryz.f8.params.toList ++ Rows.diagramJoinsSpec.plain.varTypes Tryz.prog ++ Tryz.f8.resultTypes.toList).any (Tryz.prog.wideKeysFrom ·)) = true := by kernel_rfl
theorem diagramJoins_j18 : Rows.diagramJoinsSpec.vars.all (Tryz.prog.varReadable ·) = true := by kernel_rfl
theorem diagramJoins_j19 : Tryz.f8.resultTypes.all (fun t => Tryz.prog.readableRec t && decide (t < Tryz.prog.types.size)) = true := by kernel_rfl
theorem diagramJoins_j20 : (Rows.diagramJoinsRow.ifacesOut == Tryz.f8.resultTypes.toList.any (Tryz.prog.ifacesRec ·)) = true := by kernel_rfl
theorem diagramJoins_j21 : (Rows.diagramJoinsRow.loopsOut == Tryz.f8.resultTypes.toList.any (Tryz.prog.loopsFrom ·)) = true := by kernel_rfl
theorem diagramJoins_j22 : (Rows.diagramJoinsRow.plainKeys == Tryz.prog.plainKeys) = true := by kernel_rfl
theorem diagramJoins_j23 : Rows.diagramJoinsRow.shortTexts.isNone = true := by kernel_rfl
theorem diagramJoins_j26 : (Rows.diagramJoinsRow.lifted == Tryz.prog.liftsFinal) = true := by kernel_rfl
theorem diagramJoins_j27 : (Tryz.prog.make == some Rows.diagramJoinsRow.make) = true := by kernel_rfl
theorem diagramJoins_j28 : (Rows.diagramJoinsRow.kinds == (if Rows.diagramJoinsRow.domain.isEmpty then [] else Tryz.f8.params.toList.map fun t => match Tryz.prog.underlying t with | some (.int k) => some k | _ => none)) = true := by kernel_rfl
theorem diagramJoins_j29 : (Rows.diagramJoinsRow.pinned == Rows.diagramJoinsRow.pinnedBy) = true := by kernel_rfl
theorem diagramJoins_j30 : (Rows.diagramJoinsRow.veiled == (Tryz.f8.params.toList ++ Rows.diagramJoinsSpec.plain.varTypes Tryz.prog ++ Tryz.f8.resultTypes.toList).any (Tryz.prog.veiledRec ·)) = true := by kernel_rfl
theorem diagramJoins_j31 : Rows.diagramJoinsRow.veiledFits Tryz.prog Tryz.f8.params.toList (Tryz.f8.params.toList ++ Rows.diagramJoinsSpec.plain.varTypes Tryz.prog ++ Tryz.f8.resultTypes.toList) = true := by kernel_rfl
theorem diagramJoins_facts : joinedFacts Tryz.prog 8 Tryz.f8 Rows.diagramJoinsSpec Rows.diagramJoinsRow = true :=
 and1 (and1 (and1 (and1 (and1 (and1 (and1 (and1 (and1 (and1 (and1 (and1 (and1 (and1 (and1 (and1 (and1 (and1 (and1 (and1 (and1 (and1 (and1 (and1 (and1 (and1 (and1 (and1 (and1 (and1 (and1 (diagramJoins_j0) laidOut) jRowed) diagramJoins_j3) diagramJoins_j4) diagramJoins_j5) jStops) diagramJoins_j7) jKnobs) diagramJoins_j9) diagramJoins_j10) diagramJoins_j11) diagramJoins_j12) diagramJoins_j13) diagramJoins_j14) diagramJoins_j15) diagramJoins_j16) diagramJoins_j17) diagramJoins_j18) diagramJoins_j19) diagramJoins_j20) diagramJoins_j21) diagramJoins_j22) diagramJoins_j23) jHeard) jEnter) diagramJoins_j26) diagramJoins_j27) diagramJoins_j28) diagramJoins_j29) diagramJoins_j30) diagramJoins_j31
theorem diagramJoins_fn : Tryz.prog.funcNamed Rows.diagramJoinsRow.func = some 8 := by kernel_rfl
theorem diagramJoins_inst : Tryz.f8.isInstance Tryz.prog Rows.diagramJoinsRow.origin Rows.diagramJoinsRow.targs := of_decide_eq_true (by kernel_rfl)
theorem diagramJoins_wrap : Tryz.f8.isWrapper Tryz.prog Rows.diagramJoinsRow.wrapper Rows.diagramJoinsRow.mainSum := by
 unfold Func.isWrapper; first | (rw [if_pos (by decide +kernel)]; kernel_rfl) | (rw [if_neg (by decide +kernel)]; exact ⟨rfl, rfl⟩)
theorem diagramJoins_text : Rows.diagramJoinsRow.wfByText (OpenSpec.ofChange Rows.diagramJoinsSpec) = true := by kernel_rfl
theorem diagramJoins_main : Tryz.pinned.checked.prog.mainIs = some (true, "dbfb770137cd3a53e4568a461c6b3edeab2001f82372e9ca265d6da6bd306e12".toList) := by kernel_rfl
theorem diagramJoins_goes : false = Rows.diagramJoinsRow.goesBy Tryz.pinned.checked.prog := by kernel_rfl
theorem diagramJoins_stand : ([24, 24, 27, 29].all fun u => !Tryz.prog.wantsStandIn u) = true := by kernel_rfl
theorem diagramJoins_looks : ∀ f fn, Tryz.prog.funcNamed Rows.diagramJoinsRow.func = some f -> Tryz.prog.funcs[f]? = some fn -> true = Tryz.prog.looks [] /\ ∀ (j : Nat) t, fn.params[j]? = some t -> Tryz.prog.wantsStandIn t = false := by
 intro f fn hf hfn; obtain rfl : f = 8 := (Option.some.inj (diagramJoins_fn.symm.trans hf)).symm; obtain rfl : fn = Tryz.f8 := (Option.some.inj (Tryz.func8.symm.trans hfn)).symm; refine ⟨jLooks, fun j t ht => ?_⟩; rw [paramsDiagramJoins] at ht; have hm : t ∈ [24, 24, 27, 29] := by simpa using Array.mem_of_getElem? ht
 simpa using List.all_eq_true.1 diagramJoins_stand t hm
end Go.Proofs.YtejbgoigkefnfaaGreatDoor
