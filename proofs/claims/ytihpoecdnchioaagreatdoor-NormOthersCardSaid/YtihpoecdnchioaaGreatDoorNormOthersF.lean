/- NormOthers: closed facts of its row, its shown start. No conditions. -/
import Derived.Test.YtihpoecdnchioaaGreatDoorWit
namespace Go.Proofs.YtihpoecdnchioaaGreatDoor
open Go Go.ChangeShapes Go.WideShapes Go.ChangeAt Go.RowKit

theorem paramsNormOthers : Tryz.f6.params = #[28, 9, 5, 32, 29] := by kernel_rfl
theorem resultsNormOthers : Tryz.f6.resultTypes = #[4] := by kernel_rfl

set_option maxRecDepth 100000 in
theorem normOthers_witness (os : Os) {H : Type} (enc : TypeId × Value → H) : ∃ (w : World) (tape : Tape) (i : Input), w.os = os ∧ (w.forCall tape i).Shaped Tryz.checked.prog ∧ i.vars = [] ∧ Input.okWide Tryz.checked.prog (w.forCall tape i) .any w.heap.size 6 i ∧
    ((Rows.normOthersSpec.pre enc Tryz.checked.prog Tryz.f6 [] false (w.forCall tape i).memory i.args ∧ laidMetH Tryz.prog laid5 (w.forCall tape i).memory) ∧ sizedMet enc Tryz.checked.prog Tryz.f6 (OpenSpec.ofChange Rows.normOthersSpec) false (w.forCall tape i).memory i.args) ∧ ({} : Assume).holds Tryz.checked.prog (lone (Frame.enter Tryz.checked.prog 6 i.args .normal) [] (w.forCall tape i)) :=
  ChangeSpec.witness_shaped (enc := enc) (C := Tryz.checked) (os := os) (X := fun w _ => laidMetH Tryz.prog laid5 w) false (World.doorLaid Tryz.prog 2000 os) #[lawV, .string ⟨#[]⟩, .int .u8 0, .slice none 0 0, .slice none 0 0] 8 rfl (World.shaped_of_RefB (by kernel_rfl) (by kernel_rfl)) (by kernel_rfl) (by kernel_rfl) (by kernel_rfl) (door_met os _)
theorem normOthers_j0 : Rows.normOthersRow.wf (OpenSpec.ofChange Rows.normOthersSpec) = true := by kernel_rfl
theorem normOthers_j3 : Tryz.f6.params.all (Tryz.prog.readableRec ·) = true := by kernel_rfl
theorem normOthers_j4 : namedTie Tryz.prog Rows.normOthersRow.named Rows.normOthersSpec.vars = true := by kernel_rfl
theorem normOthers_j5 : (Rows.normOthersRow.stops == []) = true := by kernel_rfl
theorem normOthers_j7 : (Rows.normOthersRow.knobs == []) = true := by kernel_rfl
theorem normOthers_j9 : (Rows.normOthersRow.inPlace == Tryz.prog.inPlace 6) = true := by kernel_rfl
theorem normOthers_j10 : (Rows.normOthersRow.unfollowed == Tryz.prog.unfollowed 6) = true := by kernel_rfl
theorem normOthers_j11 : (Rows.normOthersRow.recurses == Tryz.prog.recurses 6) = true := by kernel_rfl
theorem normOthers_j12 : (Rows.normOthersRow.named == Tryz.prog.varsNamed 6) = true := by kernel_rfl
theorem normOthers_j13 : (Rows.normOthersRow.maps == (Tryz.f6.params.toList ++ Rows.normOthersSpec.plain.varTypes Tryz.prog).any (Tryz.prog.mapsRec ·)) = true := by kernel_rfl
theorem normOthers_j14 : (Rows.normOthersRow.ifaces == (Tryz.f6.params.toList ++ Rows.normOthersSpec.plain.varTypes Tryz.prog).any (Tryz.prog.ifacesRec ·)) = true := by kernel_rfl
theorem normOthers_j15 : (Rows.normOthersRow.mapsOut == Tryz.prog.mapsAmong Tryz.f6.resultTypes.toList) = true := by kernel_rfl
theorem normOthers_j16 : (Rows.normOthersRow.loops == (Tryz.f6.params.toList ++ Rows.normOthersSpec.plain.varTypes Tryz.prog).any (Tryz.prog.loopsFrom ·)) = true := by kernel_rfl
theorem normOthers_j17 : (Rows.normOthersRow.wideKeys == (Tryz.f6.params.toList ++ Rows.normOthersSpec.plain.varTypes Tryz.prog ++ Tryz.f6.resultTypes.toList).any (Tryz.prog.wideKeysFrom ·)) = true := by kernel_rfl
theorem normOthers_j18 : Rows.normOthersSpec.vars.all (Tryz.prog.varReadable ·) = true := by kernel_rfl
theorem normOthers_j19 : Tryz.f6.resultTypes.all (fun t => Tryz.prog.readableRec t && decide (t < Tryz.prog.types.size)) = true := by kernel_rfl
theorem normOthers_j20 : (Rows.normOthersRow.ifacesOut == Tryz.f6.resultTypes.toList.any (Tryz.prog.ifacesRec ·)) = true := by kernel_rfl
theorem normOthers_j21 : (Rows.normOthersRow.loopsOut == Tryz.f6.resultTypes.toList.any (Tryz.prog.loopsFrom ·)) = true := by kernel_rfl
theorem normOthers_j22 : (Rows.normOthersRow.plainKeys == Tryz.prog.plainKeys) = true := by kernel_rfl
theorem normOthers_j23 : Rows.normOthersRow.shortTexts.isNone = true := by kernel_rfl
theorem normOthers_j26 : (Rows.normOthersRow.lifted == Tryz.prog.liftsFinal) = true := by kernel_rfl
theorem normOthers_j27 : (Tryz.prog.make == some Rows.normOthersRow.make) = true := by kernel_rfl
theorem normOthers_j28 : (Rows.normOthersRow.kinds == (if Rows.normOthersRow.domain.isEmpty then [] else Tryz.f6.params.toList.map fun t => match Tryz.prog.underlying t with | some (.int k) => some k | _ => none)) = true := by kernel_rfl
theorem normOthers_j29 : (Rows.normOthersRow.pinned == Rows.normOthersRow.pinnedBy) = true := by kernel_rfl
theorem normOthers_j30 : (Rows.normOthersRow.veiled == (Tryz.f6.params.toList ++ Rows.normOthersSpec.plain.varTypes Tryz.prog ++ Tryz.f6.resultTypes.toList).any (Tryz.prog.veiledRec ·)) = true := by kernel_rfl
theorem normOthers_j31 : Rows.normOthersRow.veiledFits Tryz.prog Tryz.f6.params.toList (Tryz.f6.params.toList ++ Rows.normOthersSpec.plain.varTypes Tryz.prog ++ Tryz.f6.resultTypes.toList) = true := by kernel_rfl
set_option maxRecDepth 100000 in
theorem normOthers_facts : joinedFacts Tryz.prog 6 Tryz.f6 Rows.normOthersSpec Rows.normOthersRow = true :=
  and1 (and1 (and1 (and1 (and1 (and1 (and1 (and1 (and1 (and1 (and1 (and1 (and1 (and1 (and1 (and1 (and1 (and1 (and1 (and1 (and1 (and1 (and1 (and1 (and1 (and1 (and1 (and1 (and1 (and1 (and1 (normOthers_j0) laidOut) jRowed) normOthers_j3) normOthers_j4) normOthers_j5) jStops) normOthers_j7) jKnobs) normOthers_j9) normOthers_j10) normOthers_j11) normOthers_j12) normOthers_j13) normOthers_j14) normOthers_j15) normOthers_j16) normOthers_j17) normOthers_j18) normOthers_j19) normOthers_j20) normOthers_j21) normOthers_j22) normOthers_j23) jHeard) jEnter) normOthers_j26) normOthers_j27) normOthers_j28) normOthers_j29) normOthers_j30) normOthers_j31
theorem normOthers_fn : Tryz.prog.funcNamed Rows.normOthersRow.func = some 6 := by kernel_rfl
theorem normOthers_inst : Tryz.f6.isInstance Tryz.prog Rows.normOthersRow.origin Rows.normOthersRow.targs := of_decide_eq_true (by kernel_rfl)
theorem normOthers_wrap : Tryz.f6.isWrapper Tryz.prog Rows.normOthersRow.wrapper Rows.normOthersRow.mainSum := by
  unfold Func.isWrapper; first | (rw [if_pos (by decide +kernel)]; kernel_rfl) | (rw [if_neg (by decide +kernel)]; exact ⟨rfl, rfl⟩)
theorem normOthers_text : Rows.normOthersRow.wfByText (OpenSpec.ofChange Rows.normOthersSpec) = true := by kernel_rfl
theorem normOthers_main : Tryz.pinned.checked.prog.mainIs = some (true, "542762a18bf871ad1b39b503933890a1e21b2b1e9f7eced2e686454d6146b3bb".toList) := by kernel_rfl
theorem normOthers_goes : false = Rows.normOthersRow.goesBy Tryz.pinned.checked.prog := by kernel_rfl
theorem normOthers_stand : ([28, 9, 5, 32, 29].all fun u => !Tryz.prog.wantsStandIn u) = true := by kernel_rfl
set_option maxRecDepth 100000 in
theorem normOthers_looks : ∀ f fn, Tryz.prog.funcNamed Rows.normOthersRow.func = some f → Tryz.prog.funcs[f]? = some fn → true = Tryz.prog.looks [] ∧ ∀ (j : Nat) t, fn.params[j]? = some t → Tryz.prog.wantsStandIn t = false := by
  intro f fn hf hfn
  obtain rfl : f = 6 := (Option.some.inj (normOthers_fn.symm.trans hf)).symm
  obtain rfl : fn = Tryz.f6 := (Option.some.inj (Tryz.func6.symm.trans hfn)).symm
  refine ⟨jLooks, fun j t ht => ?_⟩
  rw [paramsNormOthers] at ht
  have hm : t ∈ [28, 9, 5, 32, 29] := by simpa using Array.mem_of_getElem? ht
  simpa using List.all_eq_true.1 normOthers_stand t hm
end Go.Proofs.YtihpoecdnchioaaGreatDoor
