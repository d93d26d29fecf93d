/- RegimeOthers: closed facts of its row, its shown start. No conditions. -/
import Derived.Test.YtihniipjfdenbaaGreatDoorWitR
set_option maxRecDepth 100000
namespace Go.Proofs.YtihniipjfdenbaaGreatDoor
open Go Go.ChangeShapes Go.WideShapes Go.ChangeAt Go.RowKit
theorem paramsRegimeOthers :Tryz.f7.params=#[22,25,9,3,27,3]:=by kernel_rfl
theorem resultsRegimeOthers :Tryz.f7.resultTypes=#[4]:=by kernel_rfl
theorem regimeOthers_witness (os:Os){H:Type}(enc:TypeId×Value->H):∃(w:World) (tape:Tape) (i:Input),w.os=os/\ (w.forCall tape i).Shaped Tryz.checked.prog/\ i.vars=[]/\ Input.okWide Tryz.checked.prog (w.forCall tape i) .any w.heap.size 7 i/\
  ((Rows.regimeOthersSpec.pre enc Tryz.checked.prog Tryz.f7 [] false (w.forCall tape i).memory i.args/\ laidMetH Tryz.prog laid5 (w.forCall tape i).memory)/\ sizedMet enc Tryz.checked.prog Tryz.f7 (OpenSpec.ofChange Rows.regimeOthersSpec) false (w.forCall tape i).memory i.args)/\ ({}:Assume).holds Tryz.checked.prog (lone (Frame.enter Tryz.checked.prog 7 i.args .normal) [] (w.forCall tape i)):=
 ChangeSpec.witness_shaped (enc:=enc) (C:=Tryz.checked) (os:=os) (X:=fun w _=>laidMetH Tryz.prog laid5 w) false (World.doorLaid Tryz.prog 2000 os) #[.slice none 0 0,.agg #[.slice none 0 0],.string ⟨#[]⟩,.int .i64 0,.slice none 0 0,.int .i64 0] 8 rfl (World.shaped_of_RefB (by kernel_rfl) (by kernel_rfl)) (by kernel_rfl) (by kernel_rfl) (by kernel_rfl) (door_met os _)
theorem regimeOthers_j0 :Rows.regimeOthersRow.wf (OpenSpec.ofChange Rows.regimeOthersSpec)=true:=by kernel_rfl
theorem regimeOthers_j3 :Tryz.f7.params.all (Tryz.prog.readableRec ·)=true:=by kernel_rfl
theorem regimeOthers_j4 :namedTie Tryz.prog Rows.regimeOthersRow.named Rows.regimeOthersSpec.vars=true:=by kernel_rfl
theorem regimeOthers_j5 :(Rows.regimeOthersRow.stops==[])=true:=by kernel_rfl
theorem regimeOthers_j7 :(Rows.regimeOthersRow.knobs==[])=true:=by kernel_rfl
theorem regimeOthers_j9 :(Rows.regimeOthersRow.inPlace==Tryz.prog.inPlace 7)=true:=by kernel_rfl
theorem regimeOthers_j10 :(Rows.regimeOthersRow.unfollowed==Tryz.prog.unfollowed 7)=true:=by kernel_rfl
theorem regimeOthers_j11 :(Rows.regimeOthersRow.recurses==Tryz.prog.recurses 7)=true:=by kernel_rfl
theorem regimeOthers_j12 :(Rows.regimeOthersRow.named==Tryz.prog.varsNamed 7)=true:=by kernel_rfl
theorem regimeOthers_j13 :(Rows.regimeOthersRow.maps==(Tryz.f7.params.toList++Rows.regimeOthersSpec.plain.varTypes Tryz.prog).any (Tryz.prog.mapsRec ·))=true:=by kernel_rfl
theorem regimeOthers_j14 :(Rows.regimeOthersRow.ifaces==(Tryz.f7.params.toList++Rows.regimeOthersSpec.plain.varTypes Tryz.prog).any (Tryz.prog.ifacesRec ·))=true:=by kernel_rfl
theorem regimeOthers_j15 :(Rows.regimeOthersRow.mapsOut==Tryz.prog.mapsAmong Tryz.f7.resultTypes.toList)=true:=by kernel_rfl
theorem regimeOthers_j16 :(Rows.regimeOthersRow.loops==(Tryz.f7.params.toList++Rows.regimeOthersSpec.plain.varTypes Tryz.prog).any (Tryz.prog.loopsFrom ·))=true:=by kernel_rfl
theorem regimeOthers_j17 :(Rows.regimeOthersRow.wideKeys==(Tryz.f7.params.toList++Rows.regimeOthersSpec.plain.varTypes Tryz.prog++Tryz.f7.resultTypes.toList).any (Tryz.prog.wideKeysFrom ·))=true:=by kernel_rfl
theorem regimeOthers_j18 :Rows.regimeOthersSpec.vars.all (Tryz.prog.varReadable ·)=true:=by kernel_rfl
theorem regimeOthers_j19 :Tryz.f7.resultTypes.all (fun t=>Tryz.prog.readableRec t&& decide (t<Tryz.prog.types.size))=true:=by kernel_rfl
theorem regimeOthers_j20 :(Rows.regimeOthersRow.ifacesOut==Tryz.f7.resultTypes.toList.any (Tryz.prog.ifacesRec ·))=true:=by kernel_rfl
theorem regimeOthers_j21 :(Rows.regimeOthersRow.loopsOut==Tryz.f7.resultTypes.toList.any (Tryz.prog.loopsFrom ·))=true:=by kernel_rfl
theorem regimeOthers_j22 :(Rows.regimeOthersRow.plainKeys==Tryz.prog.plainKeys)=true:=by kernel_rfl
theorem regimeOthers_j23 :Rows.regimeOthersRow.shortTexts.isNone=true:=by kernel_rfl
theorem regimeOthers_j26 :(Rows.regimeOthersRow.lifted==Tryz.prog.liftsFinal)=true:=by kernel_rfl
theorem regimeOthers_j27 :(Tryz.prog.make==some Rows.regimeOthersRow.make)=true:=by kernel_rfl
theorem regimeOthers_j28 :(Rows.regimeOthersRow.kinds==(if Rows.regimeOthersRow.domain.isEmpty then[]else Tryz.f7.params.toList.map fun t=>match Tryz.prog.underlying t with | some (.int k)=>some k | _=>none))=true:=by kernel_rfl
theorem regimeOthers_j29 :(Rows.regimeOthersRow.pinned==Rows.regimeOthersRow.pinnedBy)=true:=by kernel_rfl
theorem regimeOthers_j30 :(Rows.regimeOthersRow.veiled==(Tryz.f7.params.toList++Rows.regimeOthersSpec.plain.varTypes Tryz.prog++Tryz.f7.resultTypes.toList).any (Tryz.prog.veiledRec ·))=true:=by kernel_rfl
theorem regimeOthers_j31 :Rows.regimeOthersRow.veiledFits Tryz.prog Tryz.f7.params.toList (Tryz.f7.params.toList++Rows.regimeOthersSpec.plain.varTypes Tryz.prog++Tryz.f7.resultTypes.toList)=true:=by kernel_rfl
theorem regimeOthers_facts :joinedFacts Tryz.prog 7 Tryz.f7 Rows.regimeOthersSpec Rows.regimeOthersRow=true:=
 and1 (and1 (and1 (and1 (and1 (and1 (and1 (and1 (and1 (and1 (and1 (and1 (and1 (and1 (and1 (and1 (and1 (and1 (and1 (and1 (and1 (and1 (and1 (and1 (and1 (and1 (and1 (and1 (and1 (and1 (and1 (regimeOthers_j0) laidOut) jRowed) regimeOthers_j3) regimeOthers_j4) regimeOthers_j5) jStops) regimeOthers_j7) jKnobs) regimeOthers_j9) regimeOthers_j10) regimeOthers_j11) regimeOthers_j12) regimeOthers_j13) regimeOthers_j14) regimeOthers_j15) regimeOthers_j16) regimeOthers_j17) regimeOthers_j18) regimeOthers_j19) regimeOthers_j20) regimeOthers_j21) regimeOthers_j22) regimeOthers_j23) jHeard) jEnter) regimeOthers_j26) regimeOthers_j27) regimeOthers_j28) regimeOthers_j29) regimeOthers_j30) regimeOthers_j31
theorem regimeOthers_fn :Tryz.prog.funcNamed Rows.regimeOthersRow.func=some 7:=by kernel_rfl
theorem regimeOthers_inst :Tryz.f7.isInstance Tryz.prog Rows.regimeOthersRow.origin Rows.regimeOthersRow.targs:=of_decide_eq_true (by kernel_rfl)
theorem regimeOthers_wrap :Tryz.f7.isWrapper Tryz.prog Rows.regimeOthersRow.wrapper Rows.regimeOthersRow.mainSum:=by
 unfold Func.isWrapper;first | (rw[if_pos (by decide+kernel)];kernel_rfl) | (rw[if_neg (by decide+kernel)];exact⟨rfl,rfl⟩)
theorem regimeOthers_text :Rows.regimeOthersRow.wfByText (OpenSpec.ofChange Rows.regimeOthersSpec)=true:=by kernel_rfl
theorem regimeOthers_main :Tryz.pinned.checked.prog.mainIs=some (true, "1dc0354aee2e8b26fe5a873ad1dbd38b6ca373bf4f9414df6b8936da1f678682".toList):=by kernel_rfl
theorem regimeOthers_goes :false=Rows.regimeOthersRow.goesBy Tryz.pinned.checked.prog:=by kernel_rfl
theorem regimeOthers_stand :([22,25,9,3,27,3].all fun u=> !Tryz.prog.wantsStandIn u)=true:=by kernel_rfl
theorem regimeOthers_looks :∀f fn,Tryz.prog.funcNamed Rows.regimeOthersRow.func=some f->Tryz.prog.funcs[f]? =some fn->true=Tryz.prog.looks []/\ ∀(j:Nat) t,fn.params[j]? =some t->Tryz.prog.wantsStandIn t=false:=by
 intro f fn hf hfn;obtain rfl:f=7:=(Option.some.inj (regimeOthers_fn.symm.trans hf)).symm;obtain rfl:fn=Tryz.f7:=(Option.some.inj (Tryz.func7.symm.trans hfn)).symm;refine⟨jLooks,fun j t ht=>?_⟩;rw[paramsRegimeOthers]at ht;have hm:t∈[22,25,9,3,27,3]:=by simpa using Array.mem_of_getElem? ht
 simpa using List.all_eq_true.1 regimeOthers_stand t hm
end Go.Proofs.YtihniipjfdenbaaGreatDoor
