/- RegimeComplete: closed facts of its row, its shown start. No conditions. -/
import Derived.Test.YtihniipjfdenbaaGreatDoorWitR
set_option maxRecDepth 100000
namespace Go.Proofs.YtihniipjfdenbaaGreatDoor
open Go Go.ChangeShapes Go.WideShapes Go.ChangeAt Go.RowKit
theorem paramsRegimeComplete :Tryz.f5.params=#[22,25,9,3,27,3]:=by kernel_rfl
theorem resultsRegimeComplete :Tryz.f5.resultTypes=#[4]:=by kernel_rfl
theorem regimeComplete_witness (os:Os){H:Type}(enc:TypeId×Value->H):∃(w:World) (tape:Tape) (i:Input),w.os=os/\ (w.forCall tape i).Shaped Tryz.checked.prog/\ i.vars=[]/\ Input.okWide Tryz.checked.prog (w.forCall tape i) .any w.heap.size 5 i/\
  ((Rows.regimeCompleteSpec.pre enc Tryz.checked.prog Tryz.f5 [] false (w.forCall tape i).memory i.args/\ laidMetH Tryz.prog laid5 (w.forCall tape i).memory)/\ sizedMet enc Tryz.checked.prog Tryz.f5 (OpenSpec.ofChange Rows.regimeCompleteSpec) false (w.forCall tape i).memory i.args)/\ ({}:Assume).holds Tryz.checked.prog (lone (Frame.enter Tryz.checked.prog 5 i.args .normal) [] (w.forCall tape i)):=
 ChangeSpec.witness_shaped (enc:=enc) (C:=Tryz.checked) (os:=os) (X:=fun w _=>laidMetH Tryz.prog laid5 w) false (World.doorLaid Tryz.prog 2000 os) #[.slice none 0 0,.agg #[.slice none 0 0],.string ⟨#[]⟩,.int .i64 0,.slice none 0 0,.int .i64 0] 8 rfl (World.shaped_of_RefB (by kernel_rfl) (by kernel_rfl)) (by kernel_rfl) (by kernel_rfl) (by kernel_rfl) (door_met os _)
theorem regimeComplete_j0 :Rows.regimeCompleteRow.wf (OpenSpec.ofChange Rows.regimeCompleteSpec)=true:=by kernel_rfl
theorem regimeComplete_j3 :Tryz.f5.params.all (Tryz.prog.readableRec ·)=true:=by kernel_rfl
theorem regimeComplete_j4 :namedTie Tryz.prog Rows.regimeCompleteRow.named Rows.regimeCompleteSpec.vars=true:=by kernel_rfl
theorem regimeComplete_j5 :(Rows.regimeCompleteRow.stops==[])=true:=by kernel_rfl
theorem regimeComplete_j7 :(Rows.regimeCompleteRow.knobs==[])=true:=by kernel_rfl
theorem regimeComplete_j9 :(Rows.regimeCompleteRow.inPlace==Tryz.prog.inPlace 5)=true:=by kernel_rfl
theorem regimeComplete_j10 :(Rows.regimeCompleteRow.unfollowed==Tryz.prog.unfollowed 5)=true:=by kernel_rfl
theorem regimeComplete_j11 :(Rows.regimeCompleteRow.recurses==Tryz.prog.recurses 5)=true:=by kernel_rfl
theorem regimeComplete_j12 :(Rows.regimeCompleteRow.named==Tryz.prog.varsNamed 5)=true:=by kernel_rfl
theorem regimeComplete_j13 :(Rows.regimeCompleteRow.maps==(Tryz.f5.params.toList++Rows.regimeCompleteSpec.plain.varTypes Tryz.prog).any (Tryz.prog.mapsRec ·))=true:=by kernel_rfl
theorem regimeComplete_j14 :(Rows.regimeCompleteRow.ifaces==(Tryz.f5.params.toList++Rows.regimeCompleteSpec.plain.varTypes Tryz.prog).any (Tryz.prog.ifacesRec ·))=true:=by kernel_rfl
theorem regimeComplete_j15 :(Rows.regimeCompleteRow.mapsOut==Tryz.prog.mapsAmong Tryz.f5.resultTypes.toList)=true:=by kernel_rfl
theorem regimeComplete_j16 :(Rows.regimeCompleteRow.loops==(Tryz.f5.params.toList++Rows.regimeCompleteSpec.plain.varTypes Tryz.prog).any (Tryz.prog.loopsFrom ·))=true:=by kernel_rfl
theorem regimeComplete_j17 :(Rows.regimeCompleteRow.wideKeys==(Tryz.f5.params.toList++Rows.regimeCompleteSpec.plain.varTypes Tryz.prog++Tryz.f5.resultTypes.toList).any (Tryz.prog.wideKeysFrom ·))=true:=by kernel_rfl
theorem regimeComplete_j18 :Rows.regimeCompleteSpec.vars.all (Tryz.prog.varReadable ·)=true:=by kernel_rfl
theorem regimeComplete_j19 :Tryz.f5.resultTypes.all (fun t=>Tryz.prog.readableRec t&& decide (t<Tryz.prog.types.size))=true:=by kernel_rfl
theorem regimeComplete_j20 :(Rows.regimeCompleteRow.ifacesOut==Tryz.f5.resultTypes.toList.any (Tryz.prog.ifacesRec ·))=true:=by kernel_rfl
theorem regimeComplete_j21 :(Rows.regimeCompleteRow.loopsOut==Tryz.f5.resultTypes.toList.any (Tryz.prog.loopsFrom ·))=true:=by kernel_rfl
theorem regimeComplete_j22 :(Rows.regimeCompleteRow.plainKeys==Tryz.prog.plainKeys)=true:=by kernel_rfl
theorem regimeComplete_j23 :Rows.regimeCompleteRow.shortTexts.isNone=true:=by kernel_rfl
theorem regimeComplete_j26 :(Rows.regimeCompleteRow.lifted==Tryz.prog.liftsFinal)=true:=by kernel_rfl
theorem regimeComplete_j27 :(Tryz.prog.make==some Rows.regimeCompleteRow.make)=true:=by kernel_rfl
theorem regimeComplete_j28 :(Rows.regimeCompleteRow.kinds==(if Rows.regimeCompleteRow.domain.isEmpty then[]else Tryz.f5.params.toList.map fun t=>match Tryz.prog.underlying t with | some (.int k)=>some k | _=>none))=true:=by kernel_rfl
theorem regimeComplete_j29 :(Rows.regimeCompleteRow.pinned==Rows.regimeCompleteRow.pinnedBy)=true:=by kernel_rfl
theorem regimeComplete_j30 :(Rows.regimeCompleteRow.veiled==(Tryz.f5.params.toList++Rows.regimeCompleteSpec.plain.varTypes Tryz.prog++Tryz.f5.resultTypes.toList).any (Tryz.prog.veiledRec ·))=true:=by kernel_rfl
theorem regimeComplete_j31 :Rows.regimeCompleteRow.veiledFits Tryz.prog Tryz.f5.params.toList (Tryz.f5.params.toList++Rows.regimeCompleteSpec.plain.varTypes Tryz.prog++Tryz.f5.resultTypes.toList)=true:=by kernel_rfl
theorem regimeComplete_facts :joinedFacts Tryz.prog 5 Tryz.f5 Rows.regimeCompleteSpec Rows.regimeCompleteRow=true:=
 and1 (and1 (and1 (and1 (and1 (and1 (and1 (and1 (and1 (and1 (and1 (and1 (and1 (and1 (and1 (and1 (and1 (and1 (and1 (and1 (and1 (and1 (and1 (and1 (and1 (and1 (and1 (and1 (and1 (and1 (and1 (regimeComplete_j0) laidOut) jRowed) regimeComplete_j3) regimeComplete_j4) regimeComplete_j5) jStops) regimeComplete_j7) jKnobs) regimeComplete_j9) regimeComplete_j10) regimeComplete_j11) regimeComplete_j12) regimeComplete_j13) regimeComplete_j14) regimeComplete_j15) regimeComplete_j16) regimeComplete_j17) regimeComplete_j18) regimeComplete_j19) regimeComplete_j20) regimeComplete_j21) regimeComplete_j22) regimeComplete_j23) jHeard) jEnter) regimeComplete_j26) regimeComplete_j27) regimeComplete_j28) regimeComplete_j29) regimeComplete_j30) regimeComplete_j31
theorem regimeComplete_fn :Tryz.prog.funcNamed Rows.regimeCompleteRow.func=some 5:=by kernel_rfl
theorem regimeComplete_inst :Tryz.f5.isInstance Tryz.prog Rows.regimeCompleteRow.origin Rows.regimeCompleteRow.targs:=of_decide_eq_true (by kernel_rfl)
theorem regimeComplete_wrap :Tryz.f5.isWrapper Tryz.prog Rows.regimeCompleteRow.wrapper Rows.regimeCompleteRow.mainSum:=by
 unfold Func.isWrapper;first | (rw[if_pos (by decide+kernel)];kernel_rfl) | (rw[if_neg (by decide+kernel)];exact⟨rfl,rfl⟩)
theorem regimeComplete_text :Rows.regimeCompleteRow.wfByText (OpenSpec.ofChange Rows.regimeCompleteSpec)=true:=by kernel_rfl
theorem regimeComplete_main :Tryz.pinned.checked.prog.mainIs=some (true, "1dc0354aee2e8b26fe5a873ad1dbd38b6ca373bf4f9414df6b8936da1f678682".toList):=by kernel_rfl
theorem regimeComplete_goes :false=Rows.regimeCompleteRow.goesBy Tryz.pinned.checked.prog:=by kernel_rfl
theorem regimeComplete_stand :([22,25,9,3,27,3].all fun u=> !Tryz.prog.wantsStandIn u)=true:=by kernel_rfl
theorem regimeComplete_looks :∀f fn,Tryz.prog.funcNamed Rows.regimeCompleteRow.func=some f->Tryz.prog.funcs[f]? =some fn->true=Tryz.prog.looks []/\ ∀(j:Nat) t,fn.params[j]? =some t->Tryz.prog.wantsStandIn t=false:=by
 intro f fn hf hfn;obtain rfl:f=5:=(Option.some.inj (regimeComplete_fn.symm.trans hf)).symm;obtain rfl:fn=Tryz.f5:=(Option.some.inj (Tryz.func5.symm.trans hfn)).symm;refine⟨jLooks,fun j t ht=>?_⟩;rw[paramsRegimeComplete]at ht;have hm:t∈[22,25,9,3,27,3]:=by simpa using Array.mem_of_getElem? ht
 simpa using List.all_eq_true.1 regimeComplete_stand t hm
end Go.Proofs.YtihniipjfdenbaaGreatDoor
