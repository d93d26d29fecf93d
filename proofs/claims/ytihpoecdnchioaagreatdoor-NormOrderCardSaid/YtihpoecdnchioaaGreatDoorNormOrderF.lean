/- NormOrder: closed facts of its row, its shown start. No conditions. -/
import Derived.Test.YtihpoecdnchioaaGreatDoorWit
namespace Go.Proofs.YtihpoecdnchioaaGreatDoor
open Go Go.ChangeShapes Go.WideShapes Go.ChangeAt Go.RowKit

theorem paramsNormOrder : Tryz.f5.params = #[28, 29] := by kernel_rfl
theorem resultsNormOrder : Tryz.f5.resultTypes = #[4] := by kernel_rfl

set_option maxRecDepth 100000 in
theorem normOrder_witness (os : Os) {H : Type} (enc : TypeId × Value → H) : ∃ (w : World) (tape : Tape) (i : Input), w.os = os ∧ (w.forCall tape i).Shaped Tryz.checked.prog ∧ i.vars = [] ∧ Input.okWide Tryz.checked.prog (w.forCall tape i) .any w.heap.size 5 i ∧
    ((Rows.normOrderSpec.pre enc Tryz.checked.prog Tryz.f5 [] false (w.forCall tape i).memory i.args ∧ laidMetH Tryz.prog laid5 (w.forCall tape i).memory) ∧ sizedMet enc Tryz.checked.prog Tryz.f5 (OpenSpec.ofChange Rows.normOrderSpec) false (w.forCall tape i).memory i.args) ∧ ({} : Assume).holds Tryz.checked.prog (lone (Frame.enter Tryz.checked.prog 5 i.args .normal) [] (w.forCall tape i)) :=
  ChangeSpec.witness_shaped (enc := enc) (C := Tryz.checked) (os := os) (X := fun w _ => laidMetH Tryz.prog laid5 w) false (World.doorLaid Tryz.prog 2000 os) #[lawV, .slice none 0 0] 8 rfl (World.shaped_of_RefB (by kernel_rfl) (by kernel_rfl)) (by kernel_rfl) (by kernel_rfl) (by kernel_rfl) (door_met os _)
theorem normOrder_j0 : Rows.normOrderRow.wf (OpenSpec.ofChange Rows.normOrderSpec) = true := by kernel_rfl
theorem normOrder_j3 : Tryz.f5.params.all (Tryz.prog.readableRec ·) = true := by kernel_rfl
theorem normOrder_j4 : namedTie Tryz.prog Rows.normOrderRow.named Rows.normOrderSpec.vars = true := by kernel_rfl
theorem normOrder_j5 : (Rows.normOrderRow.stops == []) = true := by kernel_rfl
theorem normOrder_j7 : (Rows.normOrderRow.knobs == []) = true := by kernel_rfl
theorem normOrder_j9 : (Rows.normOrderRow.inPlace == Tryz.prog.inPlace 5) = true := by kernel_rfl
theorem normOrder_j10 : (Rows.normOrderRow.unfollowed == Tryz.prog.unfollowed 5) = true := by kernel_rfl
theorem normOrder_j11 : (Rows.normOrderRow.recurses == Tryz.prog.recurses 5) = true := by kernel_rfl
theorem normOrder_j12 : (Rows.normOrderRow.named == Tryz.prog.varsNamed 5) = true := by kernel_rfl
theorem normOrder_j13 : (Rows.normOrderRow.maps == (Tryz.f5.params.toList ++ Rows.normOrderSpec.plain.varTypes Tryz.prog).any (Tryz.prog.mapsRec ·)) = true := by kernel_rfl
theorem normOrder_j14 : (Rows.normOrderRow.ifaces == (Tryz.f5.params.toList ++ Rows.normOrderSpec.plain.varTypes Tryz.prog).any (Tryz.prog.ifacesRec ·)) = true := by kernel_rfl
theorem normOrder_j15 : (Rows.normOrderRow.mapsOut == Tryz.prog.mapsAmong Tryz.f5.resultTypes.toList) = true := by kernel_rfl
theorem normOrder_j16 : (Rows.normOrderRow.loops == (Tryz.f5.params.toList ++ Rows.normOrderSpec.plain.varTypes Tryz.prog).any (Tryz.prog.loopsFrom ·)) = true := by kernel_rfl
theorem normOrder_j17 : (Rows.normOrderRow.wideKeys == (Tryz.f5.params.toList ++ Rows.normOrderSpec.plain.varTypes Tryz.prog ++ Tryz.f5.resultTypes.toList).any (Tryz.prog.wideKeysFrom ·)) = true := by kernel_rfl
theorem normOrder_j18 : Rows.normOrderSpec.vars.all (Tryz.prog.varReadable ·) = true := by kernel_rfl
theorem normOrder_j19 : Tryz.f5.resultTypes.all (fun t => Tryz.prog.readableRec t && decide (t < Tryz.prog.types.size)) = true := by kernel_rfl
theorem normOrder_j20 : (Rows.normOrderRow.ifacesOut == Tryz.f5.resultTypes.toList.any (Tryz.prog.ifacesRec ·)) = true := by kernel_rfl
theorem normOrder_j21 : (Rows.normOrderRow.loopsOut == Tryz.f5.resultTypes.toList.any (Tryz.prog.loopsFrom ·)) = true := by kernel_rfl
theorem normOrder_j22 : (Rows.normOrderRow.plainKeys == Tryz.prog.plainKeys) = true := by kernel_rfl
theorem normOrder_j23 : Rows.normOrderRow.shortTexts.isNone = true := by kernel_rfl
theorem normOrder_j26 : (Rows.normOrderRow.lifted == Tryz.prog.liftsFinal) = true := by kernel_rfl
theorem normOrder_j27 : (Tryz.prog.make == some Rows.normOrderRow.make) = true := by kernel_rfl
theorem normOrder_j28 : (Rows.normOrderRow.kinds == (if Rows.normOrderRow.domain.isEmpty then [] else Tryz.f5.params.toList.map fun t => match Tryz.prog.underlying t with | some (.int k) => some k | _ => none)) = true := by kernel_rfl
theorem normOrder_j29 : (Rows.normOrderRow.pinned == Rows.normOrderRow.pinnedBy) = true := by kernel_rfl
theorem normOrder_j30 : (Rows.normOrderRow.veiled == (Tryz.f5.params.toList ++ Rows.normOrderSpec.plain.varTypes Tryz.prog ++ Tryz.f5.resultTypes.toList).any (Tryz.prog.veiledRec ·)) = true := by kernel_rfl
theorem normOrder_j31 : Rows.normOrderRow.veiledFits Tryz.prog Tryz.f5.params.toList (Tryz.f5.params.toList ++ Rows.normOrderSpec.plain.varTypes Tryz.prog ++ Tryz.f5.resultTypes.toList) = true := by kernel_rfl
set_option maxRecDepth 100000 in
theorem normOrder_facts : joinedFacts Tryz.prog 5 Tryz.f5 Rows.normOrderSpec Rows.normOrderRow = true :=
  and1 (and1 (and1 (and1 (and1 (and1 (and1 (and1 (and1 (and1 (and1 (and1 (and1 (and1 (and1 (and1 (and1 (and1 (and1 (and1 (and1 (and1 (and1 (and1 (and1 (and1 (and1 (and1 (and1 (and1 (and1 (normOrder_j0) laidOut) jRowed) normOrder_j3) normOrder_j4) normOrder_j5) jStops) normOrder_j7) jKnobs) normOrder_j9) normOrder_j10) normOrder_j11) normOrder_j12) normOrder_j13) normOrder_j14) normOrder_j15) normOrder_j16) normOrder_j17) normOrder_j18) normOrder_j19) normOrder_j20) normOrder_j21) normOrder_j22) normOrder_j23) jHeard) jEnter) normOrder_j26) normOrder_j27) normOrder_j28) normOrder_j29) normOrder_j30) normOrder_j31
theorem normOrder_fn : Tryz.prog.funcNamed Rows.normOrderRow.func = some 5 := by kernel_rfl
theorem normOrder_inst : Tryz.f5.isInstance Tryz.prog Rows.normOrderRow.origin Rows.normOrderRow.targs := of_decide_eq_true (by kernel_rfl)
theorem normOrder_wrap : Tryz.f5.isWrapper Tryz.prog Rows.normOrderRow.wrapper Rows.normOrderRow.mainSum := by
  unfold Func.isWrapper; first | (rw [if_pos (by decide +kernel)]; kernel_rfl) | (rw [if_neg (by decide +kernel)]; exact ⟨rfl, rfl⟩)
theorem normOrder_text : Rows.normOrderRow.wfByText (OpenSpec.ofChange Rows.normOrderSpec) = true := by kernel_rfl
theorem normOrder_main : Tryz.pinned.checked.prog.mainIs = some (true, "542762a18bf871ad1b39b503933890a1e21b2b1e9f7eced2e686454d6146b3bb".toList) := by kernel_rfl
theorem normOrder_goes : false = Rows.normOrderRow.goesBy Tryz.pinned.checked.prog := by kernel_rfl
theorem normOrder_stand : ([28, 29].all fun u => !Tryz.prog.wantsStandIn u) = true := by kernel_rfl
set_option maxRecDepth 100000 in
theorem normOrder_looks : ∀ f fn, Tryz.prog.funcNamed Rows.normOrderRow.func = some f → Tryz.prog.funcs[f]? = some fn → true = Tryz.prog.looks [] ∧ ∀ (j : Nat) t, fn.params[j]? = some t → Tryz.prog.wantsStandIn t = false := by
  intro f fn hf hfn
  obtain rfl : f = 5 := (Option.some.inj (normOrder_fn.symm.trans hf)).symm
  obtain rfl : fn = Tryz.f5 := (Option.some.inj (Tryz.func5.symm.trans hfn)).symm
  refine ⟨jLooks, fun j t ht => ?_⟩
  rw [paramsNormOrder] at ht
  have hm : t ∈ [28, 29] := by simpa using Array.mem_of_getElem? ht
  simpa using List.all_eq_true.1 normOrder_stand t hm
end Go.Proofs.YtihpoecdnchioaaGreatDoor
