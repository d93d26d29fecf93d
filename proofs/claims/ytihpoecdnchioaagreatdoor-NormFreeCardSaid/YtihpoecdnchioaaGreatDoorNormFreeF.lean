/- NormFree: closed facts of its row, its shown start. No conditions. -/
import Derived.Test.YtihpoecdnchioaaGreatDoorWit
namespace Go.Proofs.YtihpoecdnchioaaGreatDoor
open Go Go.ChangeShapes Go.WideShapes Go.ChangeAt Go.RowKit

theorem paramsNormFree : Tryz.f9.params = #[28, 29] := by kernel_rfl
theorem resultsNormFree : Tryz.f9.resultTypes = #[4] := by kernel_rfl

set_option maxRecDepth 100000 in
theorem normFree_witness (os : Os) {H : Type} (enc : TypeId × Value → H) : ∃ (w : World) (tape : Tape) (i : Input), w.os = os ∧ (w.forCall tape i).Shaped Tryz.checked.prog ∧ i.vars = [] ∧ Input.okWide Tryz.checked.prog (w.forCall tape i) .any w.heap.size 9 i ∧
    ((Rows.normFreeSpec.pre enc Tryz.checked.prog Tryz.f9 [] false (w.forCall tape i).memory i.args ∧ laidMetH Tryz.prog laid5 (w.forCall tape i).memory) ∧ sizedMet enc Tryz.checked.prog Tryz.f9 (OpenSpec.ofChange Rows.normFreeSpec) false (w.forCall tape i).memory i.args) ∧ ({} : Assume).holds Tryz.checked.prog (lone (Frame.enter Tryz.checked.prog 9 i.args .normal) [] (w.forCall tape i)) :=
  ChangeSpec.witness_shaped (enc := enc) (C := Tryz.checked) (os := os) (X := fun w _ => laidMetH Tryz.prog laid5 w) false (World.doorLaid Tryz.prog 2000 os) #[lawV, .slice none 0 0] 8 rfl (World.shaped_of_RefB (by kernel_rfl) (by kernel_rfl)) (by kernel_rfl) (by kernel_rfl) (by kernel_rfl) (door_met os _)
theorem normFree_j0 : Rows.normFreeRow.wf (OpenSpec.ofChange Rows.normFreeSpec) = true := by kernel_rfl
theorem normFree_j3 : Tryz.f9.params.all (Tryz.prog.readableRec ·) = true := by kernel_rfl
theorem normFree_j4 : namedTie Tryz.prog Rows.normFreeRow.named Rows.normFreeSpec.vars = true := by kernel_rfl
theorem normFree_j5 : (Rows.normFreeRow.stops == []) = true := by kernel_rfl
theorem normFree_j7 : (Rows.normFreeRow.knobs == []) = true := by kernel_rfl
theorem normFree_j9 : (Rows.normFreeRow.inPlace == Tryz.prog.inPlace 9) = true := by kernel_rfl
theorem normFree_j10 : (Rows.normFreeRow.unfollowed == Tryz.prog.unfollowed 9) = true := by kernel_rfl
theorem normFree_j11 : (Rows.normFreeRow.recurses == Tryz.prog.recurses 9) = true := by kernel_rfl
theorem normFree_j12 : (Rows.normFreeRow.named == Tryz.prog.varsNamed 9) = true := by kernel_rfl
theorem normFree_j13 : (Rows.normFreeRow.maps == (Tryz.f9.params.toList ++ Rows.normFreeSpec.plain.varTypes Tryz.prog).any (Tryz.prog.mapsRec ·)) = true := by kernel_rfl
theorem normFree_j14 : (Rows.normFreeRow.ifaces == (Tryz.f9.params.toList ++ Rows.normFreeSpec.plain.varTypes Tryz.prog).any (Tryz.prog.ifacesRec ·)) = true := by kernel_rfl
theorem normFree_j15 : (Rows.normFreeRow.mapsOut == Tryz.prog.mapsAmong Tryz.f9.resultTypes.toList) = true := by kernel_rfl
theorem normFree_j16 : (Rows.normFreeRow.loops == (Tryz.f9.params.toList ++ Rows.normFreeSpec.plain.varTypes Tryz.prog).any (Tryz.prog.loopsFrom ·)) = true := by kernel_rfl
theorem normFree_j17 : (Rows.normFreeRow.wideKeys == (Tryz.f9.params.toList ++ Rows.normFreeSpec.plain.varTypes Tryz.prog ++ Tryz.f9.resultTypes.toList).any (Tryz.prog.wideKeysFrom ·)) = true := by kernel_rfl
theorem normFree_j18 : Rows.normFreeSpec.vars.all (Tryz.prog.varReadable ·) = true := by kernel_rfl
theorem normFree_j19 : Tryz.f9.resultTypes.all (fun t => Tryz.prog.readableRec t && decide (t < Tryz.prog.types.size)) = true := by kernel_rfl
theorem normFree_j20 : (Rows.normFreeRow.ifacesOut == Tryz.f9.resultTypes.toList.any (Tryz.prog.ifacesRec ·)) = true := by kernel_rfl
theorem normFree_j21 : (Rows.normFreeRow.loopsOut == Tryz.f9.resultTypes.toList.any (Tryz.prog.loopsFrom ·)) = true := by kernel_rfl
theorem normFree_j22 : (Rows.normFreeRow.plainKeys == Tryz.prog.plainKeys) = true := by kernel_rfl
theorem normFree_j23 : Rows.normFreeRow.shortTexts.isNone = true := by kernel_rfl
theorem normFree_j26 : (Rows.normFreeRow.lifted == Tryz.prog.liftsFinal) = true := by kernel_rfl
theorem normFree_j27 : (Tryz.prog.make == some Rows.normFreeRow.make) = true := by kernel_rfl
theorem normFree_j28 : (Rows.normFreeRow.kinds == (if Rows.normFreeRow.domain.isEmpty then [] else Tryz.f9.params.toList.map fun t => match Tryz.prog.underlying t with | some (.int k) => some k | _ => none)) = true := by kernel_rfl
theorem normFree_j29 : (Rows.normFreeRow.pinned == Rows.normFreeRow.pinnedBy) = true := by kernel_rfl
theorem normFree_j30 : (Rows.normFreeRow.veiled == (Tryz.f9.params.toList ++ Rows.normFreeSpec.plain.varTypes Tryz.prog ++ Tryz.f9.resultTypes.toList).any (Tryz.prog.veiledRec ·)) = true := by kernel_rfl
theorem normFree_j31 : Rows.normFreeRow.veiledFits Tryz.prog Tryz.f9.params.toList (Tryz.f9.params.toList ++ Rows.normFreeSpec.plain.varTypes Tryz.prog ++ Tryz.f9.resultTypes.toList) = true := by kernel_rfl
set_option maxRecDepth 100000 in
theorem normFree_facts : joinedFacts Tryz.prog 9 Tryz.f9 Rows.normFreeSpec Rows.normFreeRow = true :=
  and1 (and1 (and1 (and1 (and1 (and1 (and1 (and1 (and1 (and1 (and1 (and1 (and1 (and1 (and1 (and1 (and1 (and1 (and1 (and1 (and1 (and1 (and1 (and1 (and1 (and1 (and1 (and1 (and1 (and1 (and1 (normFree_j0) laidOut) jRowed) normFree_j3) normFree_j4) normFree_j5) jStops) normFree_j7) jKnobs) normFree_j9) normFree_j10) normFree_j11) normFree_j12) normFree_j13) normFree_j14) normFree_j15) normFree_j16) normFree_j17) normFree_j18) normFree_j19) normFree_j20) normFree_j21) normFree_j22) normFree_j23) jHeard) jEnter) normFree_j26) normFree_j27) normFree_j28) normFree_j29) normFree_j30) normFree_j31
theorem normFree_fn : Tryz.prog.funcNamed Rows.normFreeRow.func = some 9 := by kernel_rfl
theorem normFree_inst : Tryz.f9.isInstance Tryz.prog Rows.normFreeRow.origin Rows.normFreeRow.targs := of_decide_eq_true (by kernel_rfl)
theorem normFree_wrap : Tryz.f9.isWrapper Tryz.prog Rows.normFreeRow.wrapper Rows.normFreeRow.mainSum := by
  unfold Func.isWrapper; first | (rw [if_pos (by decide +kernel)]; kernel_rfl) | (rw [if_neg (by decide +kernel)]; exact ⟨rfl, rfl⟩)
theorem normFree_text : Rows.normFreeRow.wfByText (OpenSpec.ofChange Rows.normFreeSpec) = true := by kernel_rfl
theorem normFree_main : Tryz.pinned.checked.prog.mainIs = some (true, "542762a18bf871ad1b39b503933890a1e21b2b1e9f7eced2e686454d6146b3bb".toList) := by kernel_rfl
theorem normFree_goes : false = Rows.normFreeRow.goesBy Tryz.pinned.checked.prog := by kernel_rfl
theorem normFree_stand : ([28, 29].all fun u => !Tryz.prog.wantsStandIn u) = true := by kernel_rfl
set_option maxRecDepth 100000 in
theorem normFree_looks : ∀ f fn, Tryz.prog.funcNamed Rows.normFreeRow.func = some f → Tryz.prog.funcs[f]? = some fn → true = Tryz.prog.looks [] ∧ ∀ (j : Nat) t, fn.params[j]? = some t → Tryz.prog.wantsStandIn t = false := by
  intro f fn hf hfn
  obtain rfl : f = 9 := (Option.some.inj (normFree_fn.symm.trans hf)).symm
  obtain rfl : fn = Tryz.f9 := (Option.some.inj (Tryz.func9.symm.trans hfn)).symm
  refine ⟨jLooks, fun j t ht => ?_⟩
  rw [paramsNormFree] at ht
  have hm : t ∈ [28, 29] := by simpa using Array.mem_of_getElem? ht
  simpa using List.all_eq_true.1 normFree_stand t hm
end Go.Proofs.YtihpoecdnchioaaGreatDoor
