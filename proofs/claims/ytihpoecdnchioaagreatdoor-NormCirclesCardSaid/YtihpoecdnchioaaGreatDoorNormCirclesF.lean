/- NormCircles: closed facts of its row, its shown start. No conditions. -/
import Derived.Test.YtihpoecdnchioaaGreatDoorWit
namespace Go.Proofs.YtihpoecdnchioaaGreatDoor
open Go Go.ChangeShapes Go.WideShapes Go.ChangeAt Go.RowKit

theorem paramsNormCircles : Tryz.f7.params = #[28] := by kernel_rfl
theorem resultsNormCircles : Tryz.f7.resultTypes = #[4] := by kernel_rfl

set_option maxRecDepth 100000 in
theorem normCircles_witness (os : Os) {H : Type} (enc : TypeId × Value → H) : ∃ (w : World) (tape : Tape) (i : Input), w.os = os ∧ (w.forCall tape i).Shaped Tryz.checked.prog ∧ i.vars = [] ∧ Input.okWide Tryz.checked.prog (w.forCall tape i) .any w.heap.size 7 i ∧
    ((Rows.normCirclesSpec.pre enc Tryz.checked.prog Tryz.f7 [] false (w.forCall tape i).memory i.args ∧ laidMetH Tryz.prog laid5 (w.forCall tape i).memory) ∧ sizedMet enc Tryz.checked.prog Tryz.f7 (OpenSpec.ofChange Rows.normCirclesSpec) false (w.forCall tape i).memory i.args) ∧ ({} : Assume).holds Tryz.checked.prog (lone (Frame.enter Tryz.checked.prog 7 i.args .normal) [] (w.forCall tape i)) :=
  ChangeSpec.witness_shaped (enc := enc) (C := Tryz.checked) (os := os) (X := fun w _ => laidMetH Tryz.prog laid5 w) false (World.doorLaid Tryz.prog 2000 os) #[lawV] 8 rfl (World.shaped_of_RefB (by kernel_rfl) (by kernel_rfl)) (by kernel_rfl) (by kernel_rfl) (by kernel_rfl) (door_met os _)
theorem normCircles_j0 : Rows.normCirclesRow.wf (OpenSpec.ofChange Rows.normCirclesSpec) = true := by kernel_rfl
theorem normCircles_j3 : Tryz.f7.params.all (Tryz.prog.readableRec ·) = true := by kernel_rfl
theorem normCircles_j4 : namedTie Tryz.prog Rows.normCirclesRow.named Rows.normCirclesSpec.vars = true := by kernel_rfl
theorem normCircles_j5 : (Rows.normCirclesRow.stops == []) = true := by kernel_rfl
theorem normCircles_j7 : (Rows.normCirclesRow.knobs == []) = true := by kernel_rfl
theorem normCircles_j9 : (Rows.normCirclesRow.inPlace == Tryz.prog.inPlace 7) = true := by kernel_rfl
theorem normCircles_j10 : (Rows.normCirclesRow.unfollowed == Tryz.prog.unfollowed 7) = true := by kernel_rfl
theorem normCircles_j11 : (Rows.normCirclesRow.recurses == Tryz.prog.recurses 7) = true := by kernel_rfl
theorem normCircles_j12 : (Rows.normCirclesRow.named == Tryz.prog.varsNamed 7) = true := by kernel_rfl
theorem normCircles_j13 : (Rows.normCirclesRow.maps == (Tryz.f7.params.toList ++ Rows.normCirclesSpec.plain.varTypes Tryz.prog).any (Tryz.prog.mapsRec ·)) = true := by kernel_rfl
theorem normCircles_j14 : (Rows.normCirclesRow.ifaces == (Tryz.f7.params.toList ++ Rows.normCirclesSpec.plain.varTypes Tryz.prog).any (Tryz.prog.ifacesRec ·)) = true := by kernel_rfl
theorem normCircles_j15 : (Rows.normCirclesRow.mapsOut == Tryz.prog.mapsAmong Tryz.f7.resultTypes.toList) = true := by kernel_rfl
theorem normCircles_j16 : (Rows.normCirclesRow.loops == (Tryz.f7.params.toList ++ Rows.normCirclesSpec.plain.varTypes Tryz.prog).any (Tryz.prog.loopsFrom ·)) = true := by kernel_rfl
theorem normCircles_j17 : (Rows.normCirclesRow.wideKeys == (Tryz.f7.params.toList ++ Rows.normCirclesSpec.plain.varTypes Tryz.prog ++ Tryz.f7.resultTypes.toList).any (Tryz.prog.wideKeysFrom ·)) = true := by kernel_rfl
theorem normCircles_j18 : Rows.normCirclesSpec.vars.all (Tryz.prog.varReadable ·) = true := by kernel_rfl
theorem normCircles_j19 : Tryz.f7.resultTypes.all (fun t => Tryz.prog.readableRec t && decide (t < Tryz.prog.types.size)) = true := by kernel_rfl
theorem normCircles_j20 : (Rows.normCirclesRow.ifacesOut == Tryz.f7.resultTypes.toList.any (Tryz.prog.ifacesRec ·)) = true := by kernel_rfl
theorem normCircles_j21 : (Rows.normCirclesRow.loopsOut == Tryz.f7.resultTypes.toList.any (Tryz.prog.loopsFrom ·)) = true := by kernel_rfl
theorem normCircles_j22 : (Rows.normCirclesRow.plainKeys == Tryz.prog.plainKeys) = true := by kernel_rfl
theorem normCircles_j23 : Rows.normCirclesRow.shortTexts.isNone = true := by kernel_rfl
theorem normCircles_j26 : (Rows.normCirclesRow.lifted == Tryz.prog.liftsFinal) = true := by kernel_rfl
theorem normCircles_j27 : (Tryz.prog.make == some Rows.normCirclesRow.make) = true := by kernel_rfl
theorem normCircles_j28 : (Rows.normCirclesRow.kinds == (if Rows.normCirclesRow.domain.isEmpty then [] else Tryz.f7.params.toList.map fun t => match Tryz.prog.underlying t with | some (.int k) => some k | _ => none)) = true := by kernel_rfl
theorem normCircles_j29 : (Rows.normCirclesRow.pinned == Rows.normCirclesRow.pinnedBy) = true := by kernel_rfl
theorem normCircles_j30 : (Rows.normCirclesRow.veiled == (Tryz.f7.params.toList ++ Rows.normCirclesSpec.plain.varTypes Tryz.prog ++ Tryz.f7.resultTypes.toList).any (Tryz.prog.veiledRec ·)) = true := by kernel_rfl
theorem normCircles_j31 : Rows.normCirclesRow.veiledFits Tryz.prog Tryz.f7.params.toList (Tryz.f7.params.toList ++ Rows.normCirclesSpec.plain.varTypes Tryz.prog ++ Tryz.f7.resultTypes.toList) = true := by kernel_rfl
set_option maxRecDepth 100000 in
theorem normCircles_facts : joinedFacts Tryz.prog 7 Tryz.f7 Rows.normCirclesSpec Rows.normCirclesRow = true :=
  and1 (and1 (and1 (and1 (and1 (and1 (and1 (and1 (and1 (and1 (and1 (and1 (and1 (and1 (and1 (and1 (and1 (and1 (and1 (and1 (and1 (and1 (and1 (and1 (and1 (and1 (and1 (and1 (and1 (and1 (and1 (normCircles_j0) laidOut) jRowed) normCircles_j3) normCircles_j4) normCircles_j5) jStops) normCircles_j7) jKnobs) normCircles_j9) normCircles_j10) normCircles_j11) normCircles_j12) normCircles_j13) normCircles_j14) normCircles_j15) normCircles_j16) normCircles_j17) normCircles_j18) normCircles_j19) normCircles_j20) normCircles_j21) normCircles_j22) normCircles_j23) jHeard) jEnter) normCircles_j26) normCircles_j27) normCircles_j28) normCircles_j29) normCircles_j30) normCircles_j31
theorem normCircles_fn : Tryz.prog.funcNamed Rows.normCirclesRow.func = some 7 := by kernel_rfl
theorem normCircles_inst : Tryz.f7.isInstance Tryz.prog Rows.normCirclesRow.origin Rows.normCirclesRow.targs := of_decide_eq_true (by kernel_rfl)
theorem normCircles_wrap : Tryz.f7.isWrapper Tryz.prog Rows.normCirclesRow.wrapper Rows.normCirclesRow.mainSum := by
  unfold Func.isWrapper; first | (rw [if_pos (by decide +kernel)]; kernel_rfl) | (rw [if_neg (by decide +kernel)]; exact ⟨rfl, rfl⟩)
theorem normCircles_text : Rows.normCirclesRow.wfByText (OpenSpec.ofChange Rows.normCirclesSpec) = true := by kernel_rfl
theorem normCircles_main : Tryz.pinned.checked.prog.mainIs = some (true, "542762a18bf871ad1b39b503933890a1e21b2b1e9f7eced2e686454d6146b3bb".toList) := by kernel_rfl
theorem normCircles_goes : false = Rows.normCirclesRow.goesBy Tryz.pinned.checked.prog := by kernel_rfl
theorem normCircles_stand : ([28].all fun u => !Tryz.prog.wantsStandIn u) = true := by kernel_rfl
set_option maxRecDepth 100000 in
theorem normCircles_looks : ∀ f fn, Tryz.prog.funcNamed Rows.normCirclesRow.func = some f → Tryz.prog.funcs[f]? = some fn → true = Tryz.prog.looks [] ∧ ∀ (j : Nat) t, fn.params[j]? = some t → Tryz.prog.wantsStandIn t = false := by
  intro f fn hf hfn
  obtain rfl : f = 7 := (Option.some.inj (normCircles_fn.symm.trans hf)).symm
  obtain rfl : fn = Tryz.f7 := (Option.some.inj (Tryz.func7.symm.trans hfn)).symm
  refine ⟨jLooks, fun j t ht => ?_⟩
  rw [paramsNormCircles] at ht
  have hm : t ∈ [28] := by simpa using Array.mem_of_getElem? ht
  simpa using List.all_eq_true.1 normCircles_stand t hm
end Go.Proofs.YtihpoecdnchioaaGreatDoor
