/- RegimeFinds: closed facts of its row, its shown start. No conditions. -/
import Derived.Test.YtihniipjfdenbaaGreatDoorWitR
set_option maxRecDepth 100000
namespace Go.Proofs.YtihniipjfdenbaaGreatDoor
open Go Go.ChangeShapes Go.WideShapes Go.ChangeAt Go.RowKit
theorem paramsRegimeFinds :Tryz.f4.params=#[22,25]:=by kernel_rfl
theorem resultsRegimeFinds :Tryz.f4.resultTypes=#[4]:=by kernel_rfl
theorem regimeFinds_witness (os:Os){H:Type}(enc:TypeId×Value->H):∃(w:World) (tape:Tape) (i:Input),w.os=os/\ (w.forCall tape i).Shaped Tryz.checked.prog/\ i.vars=[]/\ Input.okWide Tryz.checked.prog (w.forCall tape i) .any w.heap.size 4 i/\
  ((Rows.regimeFindsSpec.pre enc Tryz.checked.prog Tryz.f4 [] false (w.forCall tape i).memory i.args/\ laidMetH Tryz.prog laid5 (w.forCall tape i).memory)/\ sizedMet enc Tryz.checked.prog Tryz.f4 (OpenSpec.ofChange Rows.regimeFindsSpec) false (w.forCall tape i).memory i.args)/\ ({}:Assume).holds Tryz.checked.prog (lone (Frame.enter Tryz.checked.prog 4 i.args .normal) [] (w.forCall tape i)):=
 ChangeSpec.witness_shaped (enc:=enc) (C:=Tryz.checked) (os:=os) (X:=fun w _=>laidMetH Tryz.prog laid5 w) false (World.doorLaid Tryz.prog 2000 os) #[.slice none 0 0,.agg #[.slice none 0 0]] 8 rfl (World.shaped_of_RefB (by kernel_rfl) (by kernel_rfl)) (by kernel_rfl) (by kernel_rfl) (by kernel_rfl) (door_met os _)
theorem regimeFinds_j0 :Rows.regimeFindsRow.wf (OpenSpec.ofChange Rows.regimeFindsSpec)=true:=by kernel_rfl
theorem regimeFinds_j3 :Tryz.f4.params.all (Tryz.prog.readableRec ·)=true:=by kernel_rfl
theorem regimeFinds_j4 :namedTie Tryz.prog Rows.regimeFindsRow.named Rows.regimeFindsSpec.vars=true:=by kernel_rfl
theorem regimeFinds_j5 :(Rows.regimeFindsRow.stops==[])=true:=by kernel_rfl
theorem regimeFinds_j7 :(Rows.regimeFindsRow.knobs==[])=true:=by kernel_rfl
theorem regimeFinds_j9 :(Rows.regimeFindsRow.inPlace==Tryz.prog.inPlace 4)=true:=by kernel_rfl
theorem regimeFinds_j10 :(Rows.regimeFindsRow.unfollowed==Tryz.prog.unfollowed 4)=true:=by kernel_rfl
theorem regimeFinds_j11 :(Rows.regimeFindsRow.recurses==Tryz.prog.recurses 4)=true:=by kernel_rfl
theorem regimeFinds_j12 :(Rows.regimeFindsRow.named==Tryz.prog.varsNamed 4)=true:=by kernel_rfl
theorem regimeFinds_j13 :(Rows.regimeFindsRow.maps==(Tryz.f4.params.toList++Rows.regimeFindsSpec.plain.varTypes Tryz.prog).any (Tryz.prog.mapsRec ·))=true:=by kernel_rfl
theorem regimeFinds_j14 :(Rows.regimeFindsRow.ifaces==(Tryz.f4.params.toList++Rows.regimeFindsSpec.plain.varTypes Tryz.prog).any (Tryz.prog.ifacesRec ·))=true:=by kernel_rfl
theorem regimeFinds_j15 :(Rows.regimeFindsRow.mapsOut==Tryz.prog.mapsAmong Tryz.f4.resultTypes.toList)=true:=by kernel_rfl
theorem regimeFinds_j16 :(Rows.regimeFindsRow.loops==(Tryz.f4.params.toList++Rows.regimeFindsSpec.plain.varTypes Tryz.prog).any (Tryz.prog.loopsFrom ·))=true:=by kernel_rfl
theorem regimeFinds_j17 :(Rows.regimeFindsRow.wideKeys==(Tryz.f4.params.toList++Rows.regimeFindsSpec.plain.varTypes Tryz.prog++Tryz.f4.resultTypes.toList).any (Tryz.prog.wideKeysFrom ·))=true:=by kernel_rfl
theorem regimeFinds_j18 :Rows.regimeFindsSpec.vars.all (Tryz.prog.varReadable ·)=true:=by kernel_rfl
theorem regimeFinds_j19 :Tryz.f4.resultTypes.all (fun t=>Tryz.prog.readableRec t&& decide (t<Tryz.prog.types.size))=true:=by kernel_rfl
theorem regimeFinds_j20 :(Rows.regimeFindsRow.ifacesOut==Tryz.f4.resultTypes.toList.any (Tryz.prog.ifacesRec ·))=true:=by kernel_rfl
theorem regimeFinds_j21 :(Rows.regimeFindsRow.loopsOut==Tryz.f4.resultTypes.toList.any (Tryz.prog.loopsFrom ·))=true:=by kernel_rfl
theorem regimeFinds_j22 :(Rows.regimeFindsRow.plainKeys==Tryz.prog.plainKeys)=true:=by kernel_rfl
theorem regimeFinds_j23 :Rows.regimeFindsRow.shortTexts.isNone=true:=by kernel_rfl
theorem regimeFinds_j26 :(Rows.regimeFindsRow.lifted==Tryz.prog.liftsFinal)=true:=by kernel_rfl
theorem regimeFinds_j27 :(Tryz.prog.make==some Rows.regimeFindsRow.make)=true:=by kernel_rfl
theorem regimeFinds_j28 :(Rows.regimeFindsRow.kinds==(if Rows.regimeFindsRow.domain.isEmpty then[]else Tryz.f4.params.toList.map fun t=>match Tryz.prog.underlying t with | some (.int k)=>some k | _=>none))=true:=by kernel_rfl
theorem regimeFinds_j29 :(Rows.regimeFindsRow.pinned==Rows.regimeFindsRow.pinnedBy)=true:=by kernel_rfl
theorem regimeFinds_j30 :(Rows.regimeFindsRow.veiled==(Tryz.f4.params.toList++Rows.regimeFindsSpec.plain.varTypes Tryz.prog++Tryz.f4.resultTypes.toList).any (Tryz.prog.veiledRec ·))=true:=by kernel_rfl
theorem regimeFinds_j31 :Rows.regimeFindsRow.veiledFits Tryz.prog Tryz.f4.params.toList (Tryz.f4.params.toList++Rows.regimeFindsSpec.plain.varTypes Tryz.prog++Tryz.f4.resultTypes.toList)=true:=by kernel_rfl
theorem regimeFinds_facts :joinedFacts Tryz.prog 4 Tryz.f4 Rows.regimeFindsSpec Rows.regimeFindsRow=true:=
 and1 (and1 (and1 (and1 (and1 (and1 (and1 (and1 (and1 (and1 (and1 (and1 (and1 (and1 (and1 (and1 (and1 (and1 (and1 (and1 (and1 (and1 (and1 (and1 (and1 (and1 (and1 (and1 (and1 (and1 (and1 (regimeFinds_j0) laidOut) jRowed) regimeFinds_j3) regimeFinds_j4) regimeFinds_j5) jStops) regimeFinds_j7) jKnobs) regimeFinds_j9) regimeFinds_j10) regimeFinds_j11) regimeFinds_j12) regimeFinds_j13) regimeFinds_j14) regimeFinds_j15) regimeFinds_j16) regimeFinds_j17) regimeFinds_j18) regimeFinds_j19) regimeFinds_j20) regimeFinds_j21) regimeFinds_j22) regimeFinds_j23) jHeard) jEnter) regimeFinds_j26) regimeFinds_j27) regimeFinds_j28) regimeFinds_j29) regimeFinds_j30) regimeFinds_j31
theorem regimeFinds_fn :Tryz.prog.funcNamed Rows.regimeFindsRow.func=some 4:=by kernel_rfl
theorem regimeFinds_inst :Tryz.f4.isInstance Tryz.prog Rows.regimeFindsRow.origin Rows.regimeFindsRow.targs:=of_decide_eq_true (by kernel_rfl)
theorem regimeFinds_wrap :Tryz.f4.isWrapper Tryz.prog Rows.regimeFindsRow.wrapper Rows.regimeFindsRow.mainSum:=by
 unfold Func.isWrapper;first | (rw[if_pos (by decide+kernel)];kernel_rfl) | (rw[if_neg (by decide+kernel)];exact⟨rfl,rfl⟩)
theorem regimeFinds_text :Rows.regimeFindsRow.wfByText (OpenSpec.ofChange Rows.regimeFindsSpec)=true:=by kernel_rfl
theorem regimeFinds_main :Tryz.pinned.checked.prog.mainIs=some (true, "1dc0354aee2e8b26fe5a873ad1dbd38b6ca373bf4f9414df6b8936da1f678682".toList):=by kernel_rfl
theorem regimeFinds_goes :false=Rows.regimeFindsRow.goesBy Tryz.pinned.checked.prog:=by kernel_rfl
theorem regimeFinds_stand :([22,25].all fun u=> !Tryz.prog.wantsStandIn u)=true:=by kernel_rfl
theorem regimeFinds_looks :∀f fn,Tryz.prog.funcNamed Rows.regimeFindsRow.func=some f->Tryz.prog.funcs[f]? =some fn->true=Tryz.prog.looks []/\ ∀(j:Nat) t,fn.params[j]? =some t->Tryz.prog.wantsStandIn t=false:=by
 intro f fn hf hfn;obtain rfl:f=4:=(Option.some.inj (regimeFinds_fn.symm.trans hf)).symm;obtain rfl:fn=Tryz.f4:=(Option.some.inj (Tryz.func4.symm.trans hfn)).symm;refine⟨jLooks,fun j t ht=>?_⟩;rw[paramsRegimeFinds]at ht;have hm:t∈[22,25]:=by simpa using Array.mem_of_getElem? ht
 simpa using List.all_eq_true.1 regimeFinds_stand t hm
end Go.Proofs.YtihniipjfdenbaaGreatDoor
