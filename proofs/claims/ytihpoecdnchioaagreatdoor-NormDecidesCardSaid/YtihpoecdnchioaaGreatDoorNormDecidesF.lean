/- NormDecides: closed facts of its row, its shown start. No conditions. -/
import Derived.Test.YtihpoecdnchioaaGreatDoorWit
namespace Go.Proofs.YtihpoecdnchioaaGreatDoor
open Go Go.ChangeShapes Go.WideShapes Go.ChangeAt Go.RowKit

theorem paramsNormDecides : Tryz.f4.params = #[28, 29] := by kernel_rfl
theorem resultsNormDecides : Tryz.f4.resultTypes = #[4] := by kernel_rfl

set_option maxRecDepth 100000 in
theorem normDecides_witness (os : Os) {H : Type} (enc : TypeId × Value → H) : ∃ (w : World) (tape : Tape) (i : Input), w.os = os ∧ (w.forCall tape i).Shaped Tryz.checked.prog ∧ i.vars = [] ∧ Input.okWide Tryz.checked.prog (w.forCall tape i) .any w.heap.size 4 i ∧
    ((Rows.normDecidesSpec.pre enc Tryz.checked.prog Tryz.f4 [] false (w.forCall tape i).memory i.args ∧ laidMetH Tryz.prog laid5 (w.forCall tape i).memory) ∧ sizedMet enc Tryz.checked.prog Tryz.f4 (OpenSpec.ofChange Rows.normDecidesSpec) false (w.forCall tape i).memory i.args) ∧ ({} : Assume).holds Tryz.checked.prog (lone (Frame.enter Tryz.checked.prog 4 i.args .normal) [] (w.forCall tape i)) :=
  ChangeSpec.witness_shaped (enc := enc) (C := Tryz.checked) (os := os) (X := fun w _ => laidMetH Tryz.prog laid5 w) false (World.doorLaid Tryz.prog 2000 os) #[lawV, .slice none 0 0] 8 rfl (World.shaped_of_RefB (by kernel_rfl) (by kernel_rfl)) (by kernel_rfl) (by kernel_rfl) (by kernel_rfl) (door_met os _)
theorem normDecides_j0 : Rows.normDecidesRow.wf (OpenSpec.ofChange Rows.normDecidesSpec) = true := by kernel_rfl
theorem normDecides_j3 : Tryz.f4.params.all (Tryz.prog.readableRec ·) = true := by kernel_rfl
theorem normDecides_j4 : namedTie Tryz.prog Rows.normDecidesRow.named Rows.normDecidesSpec.vars = true := by kernel_rfl
theorem normDecides_j5 : (Rows.normDecidesRow.stops == []) = true := by kernel_rfl
theorem normDecides_j7 : (Rows.normDecidesRow.knobs == []) = true := by kernel_rfl
theorem normDecides_j9 : (Rows.normDecidesRow.inPlace == Tryz.prog.inPlace 4) = true := by kernel_rfl
theorem normDecides_j10 : (Rows.normDecidesRow.unfollowed == Tryz.prog.unfollowed 4) = true := by kernel_rfl
theorem normDecides_j11 : (Rows.normDecidesRow.recurses == Tryz.prog.recurses 4) = true := by kernel_rfl
theorem normDecides_j12 : (Rows.normDecidesRow.named == Tryz.prog.varsNamed 4) = true := by kernel_rfl
theorem normDecides_j13 : (Rows.normDecidesRow.maps == (Tryz.f4.params.toList ++ Rows.normDecidesSpec.plain.varTypes Tryz.prog).any (Tryz.prog.mapsRec ·)) = true := by kernel_rfl
theorem normDecides_j14 : (Rows.normDecidesRow.ifaces == (Tryz.f4.params.toList ++ Rows.normDecidesSpec.plain.varTypes Tryz.prog).any (Tryz.prog.ifacesRec ·)) = true := by kernel_rfl
theorem normDecides_j15 : (Rows.normDecidesRow.mapsOut == Tryz.prog.mapsAmong Tryz.f4.resultTypes.toList) = true := by kernel_rfl
theorem normDecides_j16 : (Rows.normDecidesRow.loops == (Tryz.f4.params.toList ++ Rows.normDecidesSpec.plain.varTypes Tryz.prog).any (Tryz.prog.loopsFrom ·)) = true := by kernel_rfl
theorem normDecides_j17 : (Rows.normDecidesRow.wideKeys == (Tryz.f4.params.toList ++ Rows.normDecidesSpec.plain.varTypes Tryz.prog ++ Tryz.f4.resultTypes.toList).any (Tryz.prog.wideKeysFrom ·)) = true := by kernel_rfl
theorem normDecides_j18 : Rows.normDecidesSpec.vars.all (Tryz.prog.varReadable ·) = true := by kernel_rfl
theorem normDecides_j19 : Tryz.f4.resultTypes.all (fun t => Tryz.prog.readableRec t && decide (t < Tryz.prog.types.size)) = true := by kernel_rfl
theorem normDecides_j20 : (Rows.normDecidesRow.ifacesOut == Tryz.f4.resultTypes.toList.any (Tryz.prog.ifacesRec ·)) = true := by kernel_rfl
theorem normDecides_j21 : (Rows.normDecidesRow.loopsOut == Tryz.f4.resultTypes.toList.any (Tryz.prog.loopsFrom ·)) = true := by kernel_rfl
theorem normDecides_j22 : (Rows.normDecidesRow.plainKeys == Tryz.prog.plainKeys) = true := by kernel_rfl
theorem normDecides_j23 : Rows.normDecidesRow.shortTexts.isNone = true := by kernel_rfl
theorem normDecides_j26 : (Rows.normDecidesRow.lifted == Tryz.prog.liftsFinal) = true := by kernel_rfl
theorem normDecides_j27 : (Tryz.prog.make == some Rows.normDecidesRow.make) = true := by kernel_rfl
theorem normDecides_j28 : (Rows.normDecidesRow.kinds == (if Rows.normDecidesRow.domain.isEmpty then [] else Tryz.f4.params.toList.map fun t => match Tryz.prog.underlying t with | some (.int k) => some k | _ => none)) = true := by kernel_rfl
theorem normDecides_j29 : (Rows.normDecidesRow.pinned == Rows.normDecidesRow.pinnedBy) = true := by kernel_rfl
theorem normDecides_j30 : (Rows.normDecidesRow.veiled == (Tryz.f4.params.toList ++ Rows.normDecidesSpec.plain.varTypes Tryz.prog ++ Tryz.f4.resultTypes.toList).any (Tryz.prog.veiledRec ·)) = true := by kernel_rfl
theorem normDecides_j31 : Rows.normDecidesRow.veiledFits Tryz.prog Tryz.f4.params.toList (Tryz.f4.params.toList ++ Rows.normDecidesSpec.plain.varTypes Tryz.prog ++ Tryz.f4.resultTypes.toList) = true := by kernel_rfl
set_option maxRecDepth 100000 in
theorem normDecides_facts : joinedFacts Tryz.prog 4 Tryz.f4 Rows.normDecidesSpec Rows.normDecidesRow = true :=
  and1 (and1 (and1 (and1 (and1 (and1 (and1 (and1 (and1 (and1 (and1 (and1 (and1 (and1 (and1 (and1 (and1 (and1 (and1 (and1 (and1 (and1 (and1 (and1 (and1 (and1 (and1 (and1 (and1 (and1 (and1 (normDecides_j0) laidOut) jRowed) normDecides_j3) normDecides_j4) normDecides_j5) jStops) normDecides_j7) jKnobs) normDecides_j9) normDecides_j10) normDecides_j11) normDecides_j12) normDecides_j13) normDecides_j14) normDecides_j15) normDecides_j16) normDecides_j17) normDecides_j18) normDecides_j19) normDecides_j20) normDecides_j21) normDecides_j22) normDecides_j23) jHeard) jEnter) normDecides_j26) normDecides_j27) normDecides_j28) normDecides_j29) normDecides_j30) normDecides_j31
theorem normDecides_fn : Tryz.prog.funcNamed Rows.normDecidesRow.func = some 4 := by kernel_rfl
theorem normDecides_inst : Tryz.f4.isInstance Tryz.prog Rows.normDecidesRow.origin Rows.normDecidesRow.targs := of_decide_eq_true (by kernel_rfl)
theorem normDecides_wrap : Tryz.f4.isWrapper Tryz.prog Rows.normDecidesRow.wrapper Rows.normDecidesRow.mainSum := by
  unfold Func.isWrapper; first | (rw [if_pos (by decide +kernel)]; kernel_rfl) | (rw [if_neg (by decide +kernel)]; exact ⟨rfl, rfl⟩)
theorem normDecides_text : Rows.normDecidesRow.wfByText (OpenSpec.ofChange Rows.normDecidesSpec) = true := by kernel_rfl
theorem normDecides_main : Tryz.pinned.checked.prog.mainIs = some (true, "542762a18bf871ad1b39b503933890a1e21b2b1e9f7eced2e686454d6146b3bb".toList) := by kernel_rfl
theorem normDecides_goes : false = Rows.normDecidesRow.goesBy Tryz.pinned.checked.prog := by kernel_rfl
theorem normDecides_stand : ([28, 29].all fun u => !Tryz.prog.wantsStandIn u) = true := by kernel_rfl
set_option maxRecDepth 100000 in
theorem normDecides_looks : ∀ f fn, Tryz.prog.funcNamed Rows.normDecidesRow.func = some f → Tryz.prog.funcs[f]? = some fn → true = Tryz.prog.looks [] ∧ ∀ (j : Nat) t, fn.params[j]? = some t → Tryz.prog.wantsStandIn t = false := by
  intro f fn hf hfn
  obtain rfl : f = 4 := (Option.some.inj (normDecides_fn.symm.trans hf)).symm
  obtain rfl : fn = Tryz.f4 := (Option.some.inj (Tryz.func4.symm.trans hfn)).symm
  refine ⟨jLooks, fun j t ht => ?_⟩
  rw [paramsNormDecides] at ht
  have hm : t ∈ [28, 29] := by simpa using Array.mem_of_getElem? ht
  simpa using List.all_eq_true.1 normDecides_stand t hm
end Go.Proofs.YtihpoecdnchioaaGreatDoor
