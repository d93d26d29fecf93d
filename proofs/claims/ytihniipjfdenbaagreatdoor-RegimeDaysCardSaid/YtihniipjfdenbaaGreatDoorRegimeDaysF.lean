/- RegimeDays: closed facts of its row, its shown start. No conditions. -/
import Derived.Test.YtihniipjfdenbaaGreatDoorWitR
set_option maxRecDepth 100000
namespace Go.Proofs.YtihniipjfdenbaaGreatDoor
open Go Go.ChangeShapes Go.WideShapes Go.ChangeAt Go.RowKit
theorem paramsRegimeDays :Tryz.f6.params=#[22,25,9,3,27,3,3]:=by kernel_rfl
theorem resultsRegimeDays :Tryz.f6.resultTypes=#[4]:=by kernel_rfl
theorem regimeDays_witness (os:Os){H:Type}(enc:TypeId×Value->H):∃(w:World) (tape:Tape) (i:Input),w.os=os/\ (w.forCall tape i).Shaped Tryz.checked.prog/\ i.vars=[]/\ Input.okWide Tryz.checked.prog (w.forCall tape i) .any w.heap.size 6 i/\
  ((Rows.regimeDaysSpec.pre enc Tryz.checked.prog Tryz.f6 [] false (w.forCall tape i).memory i.args/\ laidMetH Tryz.prog laid5 (w.forCall tape i).memory)/\ sizedMet enc Tryz.checked.prog Tryz.f6 (OpenSpec.ofChange Rows.regimeDaysSpec) false (w.forCall tape i).memory i.args)/\ ({}:Assume).holds Tryz.checked.prog (lone (Frame.enter Tryz.checked.prog 6 i.args .normal) [] (w.forCall tape i)):=
 ChangeSpec.witness_shaped (enc:=enc) (C:=Tryz.checked) (os:=os) (X:=fun w _=>laidMetH Tryz.prog laid5 w) false (World.doorLaid Tryz.prog 2000 os) #[.slice none 0 0,.agg #[.slice none 0 0],.string ⟨#[]⟩,.int .i64 0,.slice none 0 0,.int .i64 0,.int .i64 0] 8 rfl (World.shaped_of_RefB (by kernel_rfl) (by kernel_rfl)) (by kernel_rfl) (by kernel_rfl) (by kernel_rfl) (door_met os _)
theorem regimeDays_j0 :Rows.regimeDaysRow.wf (OpenSpec.ofChange Rows.regimeDaysSpec)=true:=by kernel_rfl
theorem regimeDays_j3 :Tryz.f6.params.all (Tryz.prog.readableRec ·)=true:=by kernel_rfl
theorem regimeDays_j4 :namedTie Tryz.prog Rows.regimeDaysRow.named Rows.regimeDaysSpec.vars=true:=by kernel_rfl
theorem regimeDays_j5 :(Rows.regimeDaysRow.stops==[])=true:=by kernel_rfl
theorem regimeDays_j7 :(Rows.regimeDaysRow.knobs==[])=true:=by kernel_rfl
theorem regimeDays_j9 :(Rows.regimeDaysRow.inPlace==Tryz.prog.inPlace 6)=true:=by kernel_rfl
theorem regimeDays_j10 :(Rows.regimeDaysRow.unfollowed==Tryz.prog.unfollowed 6)=true:=by kernel_rfl
theorem regimeDays_j11 :(Rows.regimeDaysRow.recurses==Tryz.prog.recurses 6)=true:=by kernel_rfl
theorem regimeDays_j12 :(Rows.regimeDaysRow.named==Tryz.prog.varsNamed 6)=true:=by kernel_rfl
theorem regimeDays_j13 :(Rows.regimeDaysRow.maps==(Tryz.f6.params.toList++Rows.regimeDaysSpec.plain.varTypes Tryz.prog).any (Tryz.prog.mapsRec ·))=true:=by kernel_rfl
theorem regimeDays_j14 :(Rows.regimeDaysRow.ifaces==(Tryz.f6.params.toList++Rows.regimeDaysSpec.plain.varTypes Tryz.prog).any (Tryz.prog.ifacesRec ·))=true:=by kernel_rfl
theorem regimeDays_j15 :(Rows.regimeDaysRow.mapsOut==Tryz.prog.mapsAmong Tryz.f6.resultTypes.toList)=true:=by kernel_rfl
theorem regimeDays_j16 :(Rows.regimeDaysRow.loops==(Tryz.f6.params.toList++Rows.regimeDaysSpec.plain.varTypes Tryz.prog).any (Tryz.prog.loopsFrom ·))=true:=by kernel_rfl
theorem regimeDays_j17 :(Rows.regimeDaysRow.wideKeys==(Tryz.f6.params.toList++Rows.regimeDaysSpec.plain.varTypes Tryz.prog++Tryz.f6.resultTypes.toList).any (Tryz.prog.wideKeysFrom ·))=true:=by kernel_rfl
theorem regimeDays_j18 :Rows.regimeDaysSpec.vars.all (Tryz.prog.varReadable ·)=true:=by kernel_rfl
theorem regimeDays_j19 :Tryz.f6.resultTypes.all (fun t=>Tryz.prog.readableRec t&& decide (t<Tryz.prog.types.size))=true:=by kernel_rfl
theorem regimeDays_j20 :(Rows.regimeDaysRow.ifacesOut==Tryz.f6.resultTypes.toList.any (Tryz.prog.ifacesRec ·))=true:=by kernel_rfl
theorem regimeDays_j21 :(Rows.regimeDaysRow.loopsOut==Tryz.f6.resultTypes.toList.any (Tryz.prog.loopsFrom ·))=true:=by kernel_rfl
theorem regimeDays_j22 :(Rows.regimeDaysRow.plainKeys==Tryz.prog.plainKeys)=true:=by kernel_rfl
theorem regimeDays_j23 :Rows.regimeDaysRow.shortTexts.isNone=true:=by kernel_rfl
theorem regimeDays_j26 :(Rows.regimeDaysRow.lifted==Tryz.prog.liftsFinal)=true:=by kernel_rfl
theorem regimeDays_j27 :(Tryz.prog.make==some Rows.regimeDaysRow.make)=true:=by kernel_rfl
theorem regimeDays_j28 :(Rows.regimeDaysRow.kinds==(if Rows.regimeDaysRow.domain.isEmpty then[]else Tryz.f6.params.toList.map fun t=>match Tryz.prog.underlying t with | some (.int k)=>some k | _=>none))=true:=by kernel_rfl
theorem regimeDays_j29 :(Rows.regimeDaysRow.pinned==Rows.regimeDaysRow.pinnedBy)=true:=by kernel_rfl
theorem regimeDays_j30 :(Rows.regimeDaysRow.veiled==(Tryz.f6.params.toList++Rows.regimeDaysSpec.plain.varTypes Tryz.prog++Tryz.f6.resultTypes.toList).any (Tryz.prog.veiledRec ·))=true:=by kernel_rfl
theorem regimeDays_j31 :Rows.regimeDaysRow.veiledFits Tryz.prog Tryz.f6.params.toList (Tryz.f6.params.toList++Rows.regimeDaysSpec.plain.varTypes Tryz.prog++Tryz.f6.resultTypes.toList)=true:=by kernel_rfl
theorem regimeDays_facts :joinedFacts Tryz.prog 6 Tryz.f6 Rows.regimeDaysSpec Rows.regimeDaysRow=true:=
 and1 (and1 (and1 (and1 (and1 (and1 (and1 (and1 (and1 (and1 (and1 (and1 (and1 (and1 (and1 (and1 (and1 (and1 (and1 (and1 (and1 (and1 (and1 (and1 (and1 (and1 (and1 (and1 (and1 (and1 (and1 (regimeDays_j0) laidOut) jRowed) regimeDays_j3) regimeDays_j4) regimeDays_j5) jStops) regimeDays_j7) jKnobs) regimeDays_j9) regimeDays_j10) regimeDays_j11) regimeDays_j12) regimeDays_j13) regimeDays_j14) regimeDays_j15) regimeDays_j16) regimeDays_j17) regimeDays_j18) regimeDays_j19) regimeDays_j20) regimeDays_j21) regimeDays_j22) regimeDays_j23) jHeard) jEnter) regimeDays_j26) regimeDays_j27) regimeDays_j28) regimeDays_j29) regimeDays_j30) regimeDays_j31
theorem regimeDays_fn :Tryz.prog.funcNamed Rows.regimeDaysRow.func=some 6:=by kernel_rfl
theorem regimeDays_inst :Tryz.f6.isInstance Tryz.prog Rows.regimeDaysRow.origin Rows.regimeDaysRow.targs:=of_decide_eq_true (by kernel_rfl)
theorem regimeDays_wrap :Tryz.f6.isWrapper Tryz.prog Rows.regimeDaysRow.wrapper Rows.regimeDaysRow.mainSum:=by
 unfold Func.isWrapper;first | (rw[if_pos (by decide+kernel)];kernel_rfl) | (rw[if_neg (by decide+kernel)];exact⟨rfl,rfl⟩)
theorem regimeDays_text :Rows.regimeDaysRow.wfByText (OpenSpec.ofChange Rows.regimeDaysSpec)=true:=by kernel_rfl
theorem regimeDays_main :Tryz.pinned.checked.prog.mainIs=some (true, "1dc0354aee2e8b26fe5a873ad1dbd38b6ca373bf4f9414df6b8936da1f678682".toList):=by kernel_rfl
theorem regimeDays_goes :false=Rows.regimeDaysRow.goesBy Tryz.pinned.checked.prog:=by kernel_rfl
theorem regimeDays_stand :([22,25,9,3,27,3,3].all fun u=> !Tryz.prog.wantsStandIn u)=true:=by kernel_rfl
theorem regimeDays_looks :∀f fn,Tryz.prog.funcNamed Rows.regimeDaysRow.func=some f->Tryz.prog.funcs[f]? =some fn->true=Tryz.prog.looks []/\ ∀(j:Nat) t,fn.params[j]? =some t->Tryz.prog.wantsStandIn t=false:=by
 intro f fn hf hfn;obtain rfl:f=6:=(Option.some.inj (regimeDays_fn.symm.trans hf)).symm;obtain rfl:fn=Tryz.f6:=(Option.some.inj (Tryz.func6.symm.trans hfn)).symm;refine⟨jLooks,fun j t ht=>?_⟩;rw[paramsRegimeDays]at ht;have hm:t∈[22,25,9,3,27,3,3]:=by simpa using Array.mem_of_getElem? ht
 simpa using List.all_eq_true.1 regimeDays_stand t hm
end Go.Proofs.YtihniipjfdenbaaGreatDoor
