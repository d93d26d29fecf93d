/- RegimeOrder: closed facts of its row, its shown start. No conditions. -/
import Derived.Test.YtihniipjfdenbaaGreatDoorWitR
set_option maxRecDepth 100000
namespace Go.Proofs.YtihniipjfdenbaaGreatDoor
open Go Go.ChangeShapes Go.WideShapes Go.ChangeAt Go.RowKit
theorem paramsRegimeOrder :Tryz.f8.params=#[22,25]:=by kernel_rfl
theorem resultsRegimeOrder :Tryz.f8.resultTypes=#[4]:=by kernel_rfl
theorem regimeOrder_witness (os:Os){H:Type}(enc:TypeId×Value->H):∃(w:World) (tape:Tape) (i:Input),w.os=os/\ (w.forCall tape i).Shaped Tryz.checked.prog/\ i.vars=[]/\ Input.okWide Tryz.checked.prog (w.forCall tape i) .any w.heap.size 8 i/\
  ((Rows.regimeOrderSpec.pre enc Tryz.checked.prog Tryz.f8 [] false (w.forCall tape i).memory i.args/\ laidMetH Tryz.prog laid5 (w.forCall tape i).memory)/\ sizedMet enc Tryz.checked.prog Tryz.f8 (OpenSpec.ofChange Rows.regimeOrderSpec) false (w.forCall tape i).memory i.args)/\ ({}:Assume).holds Tryz.checked.prog (lone (Frame.enter Tryz.checked.prog 8 i.args .normal) [] (w.forCall tape i)):=
 ChangeSpec.witness_shaped (enc:=enc) (C:=Tryz.checked) (os:=os) (X:=fun w _=>laidMetH Tryz.prog laid5 w) false (World.doorLaid Tryz.prog 2000 os) #[.slice none 0 0,.agg #[.slice none 0 0]] 8 rfl (World.shaped_of_RefB (by kernel_rfl) (by kernel_rfl)) (by kernel_rfl) (by kernel_rfl) (by kernel_rfl) (door_met os _)
theorem regimeOrder_j0 :Rows.regimeOrderRow.wf (OpenSpec.ofChange Rows.regimeOrderSpec)=true:=by kernel_rfl
theorem regimeOrder_j3 :Tryz.f8.params.all (Tryz.prog.readableRec ·)=true:=by kernel_rfl
theorem regimeOrder_j4 :namedTie Tryz.prog Rows.regimeOrderRow.named Rows.regimeOrderSpec.vars=true:=by kernel_rfl
theorem regimeOrder_j5 :(Rows.regimeOrderRow.stops==[])=true:=by kernel_rfl
theorem regimeOrder_j7 :(Rows.regimeOrderRow.knobs==[])=true:=by kernel_rfl
theorem regimeOrder_j9 :(Rows.regimeOrderRow.inPlace==Tryz.prog.inPlace 8)=true:=by kernel_rfl
theorem regimeOrder_j10 :(Rows.regimeOrderRow.unfollowed==Tryz.prog.unfollowed 8)=true:=by kernel_rfl
theorem regimeOrder_j11 :(Rows.regimeOrderRow.recurses==Tryz.prog.recurses 8)=true:=by kernel_rfl
theorem regimeOrder_j12 :(Rows.regimeOrderRow.named==Tryz.prog.varsNamed 8)=true:=by kernel_rfl
theorem regimeOrder_j13 :(Rows.regimeOrderRow.maps==(Tryz.f8.params.toList++Rows.regimeOrderSpec.plain.varTypes Tryz.prog).any (Tryz.prog.mapsRec ·))=true:=by kernel_rfl
theorem regimeOrder_j14 :(Rows.regimeOrderRow.ifaces==(Tryz.f8.params.toList++Rows.regimeOrderSpec.plain.varTypes Tryz.prog).any (Tryz.prog.ifacesRec ·))=true:=by kernel_rfl
theorem regimeOrder_j15 :(Rows.regimeOrderRow.mapsOut==Tryz.prog.mapsAmong Tryz.f8.resultTypes.toList)=true:=by kernel_rfl
theorem regimeOrder_j16 :(Rows.regimeOrderRow.loops==(Tryz.f8.params.toList++Rows.regimeOrderSpec.plain.varTypes Tryz.prog).any (Tryz.prog.loopsFrom ·))=true:=by kernel_rfl
theorem regimeOrder_j17 :(Rows.regimeOrderRow.wideKeys==(Tryz.f8.params.toList++Rows.regimeOrderSpec.plain.varTypes Tryz.prog++Tryz.f8.resultTypes.toList).any (Tryz.prog.wideKeysFrom ·))=true:=by kernel_rfl
theorem regimeOrder_j18 :Rows.regimeOrderSpec.vars.all (Tryz.prog.varReadable ·)=true:=by kernel_rfl
theorem regimeOrder_j19 :Tryz.f8.resultTypes.all (fun t=>Tryz.prog.readableRec t&& decide (t<Tryz.prog.types.size))=true:=by kernel_rfl
theorem regimeOrder_j20 :(Rows.regimeOrderRow.ifacesOut==Tryz.f8.resultTypes.toList.any (Tryz.prog.ifacesRec ·))=true:=by kernel_rfl
theorem regimeOrder_j21 :(Rows.regimeOrderRow.loopsOut==Tryz.f8.resultTypes.toList.any (Tryz.prog.loopsFrom ·))=true:=by kernel_rfl
theorem regimeOrder_j22 :(Rows.regimeOrderRow.plainKeys==Tryz.prog.plainKeys)=true:=by kernel_rfl
theorem regimeOrder_j23 :Rows.regimeOrderRow.shortTexts.isNone=true:=by kernel_rfl
theorem regimeOrder_j26 :(Rows.regimeOrderRow.lifted==Tryz.prog.liftsFinal)=true:=by kernel_rfl
theorem regimeOrder_j27 :(Tryz.prog.make==some Rows.regimeOrderRow.make)=true:=by kernel_rfl
theorem regimeOrder_j28 :(Rows.regimeOrderRow.kinds==(if Rows.regimeOrderRow.domain.isEmpty then[]else Tryz.f8.params.toList.map fun t=>match Tryz.prog.underlying t with | some (.int k)=>some k | _=>none))=true:=by kernel_rfl
theorem regimeOrder_j29 :(Rows.regimeOrderRow.pinned==Rows.regimeOrderRow.pinnedBy)=true:=by kernel_rfl
theorem regimeOrder_j30 :(Rows.regimeOrderRow.veiled==(Tryz.f8.params.toList++Rows.regimeOrderSpec.plain.varTypes Tryz.prog++Tryz.f8.resultTypes.toList).any (Tryz.prog.veiledRec ·))=true:=by kernel_rfl
theorem regimeOrder_j31 :Rows.regimeOrderRow.veiledFits Tryz.prog Tryz.f8.params.toList (Tryz.f8.params.toList++Rows.regimeOrderSpec.plain.varTypes Tryz.prog++Tryz.f8.resultTypes.toList)=true:=by kernel_rfl
theorem regimeOrder_facts :joinedFacts Tryz.prog 8 Tryz.f8 Rows.regimeOrderSpec Rows.regimeOrderRow=true:=
 and1 (and1 (and1 (and1 (and1 (and1 (and1 (and1 (and1 (and1 (and1 (and1 (and1 (and1 (and1 (and1 (and1 (and1 (and1 (and1 (and1 (and1 (and1 (and1 (and1 (and1 (and1 (and1 (and1 (and1 (and1 (regimeOrder_j0) laidOut) jRowed) regimeOrder_j3) regimeOrder_j4) regimeOrder_j5) jStops) regimeOrder_j7) jKnobs) regimeOrder_j9) regimeOrder_j10) regimeOrder_j11) regimeOrder_j12) regimeOrder_j13) regimeOrder_j14) regimeOrder_j15) regimeOrder_j16) regimeOrder_j17) regimeOrder_j18) regimeOrder_j19) regimeOrder_j20) regimeOrder_j21) regimeOrder_j22) regimeOrder_j23) jHeard) jEnter) regimeOrder_j26) regimeOrder_j27) regimeOrder_j28) regimeOrder_j29) regimeOrder_j30) regimeOrder_j31
theorem regimeOrder_fn :Tryz.prog.funcNamed Rows.regimeOrderRow.func=some 8:=by kernel_rfl
theorem regimeOrder_inst :Tryz.f8.isInstance Tryz.prog Rows.regimeOrderRow.origin Rows.regimeOrderRow.targs:=of_decide_eq_true (by kernel_rfl)
theorem regimeOrder_wrap :Tryz.f8.isWrapper Tryz.prog Rows.regimeOrderRow.wrapper Rows.regimeOrderRow.mainSum:=by
 unfold Func.isWrapper;first | (rw[if_pos (by decide+kernel)];kernel_rfl) | (rw[if_neg (by decide+kernel)];exact⟨rfl,rfl⟩)
theorem regimeOrder_text :Rows.regimeOrderRow.wfByText (OpenSpec.ofChange Rows.regimeOrderSpec)=true:=by kernel_rfl
theorem regimeOrder_main :Tryz.pinned.checked.prog.mainIs=some (true, "1dc0354aee2e8b26fe5a873ad1dbd38b6ca373bf4f9414df6b8936da1f678682".toList):=by kernel_rfl
theorem regimeOrder_goes :false=Rows.regimeOrderRow.goesBy Tryz.pinned.checked.prog:=by kernel_rfl
theorem regimeOrder_stand :([22,25].all fun u=> !Tryz.prog.wantsStandIn u)=true:=by kernel_rfl
theorem regimeOrder_looks :∀f fn,Tryz.prog.funcNamed Rows.regimeOrderRow.func=some f->Tryz.prog.funcs[f]? =some fn->true=Tryz.prog.looks []/\ ∀(j:Nat) t,fn.params[j]? =some t->Tryz.prog.wantsStandIn t=false:=by
 intro f fn hf hfn;obtain rfl:f=8:=(Option.some.inj (regimeOrder_fn.symm.trans hf)).symm;obtain rfl:fn=Tryz.f8:=(Option.some.inj (Tryz.func8.symm.trans hfn)).symm;refine⟨jLooks,fun j t ht=>?_⟩;rw[paramsRegimeOrder]at ht;have hm:t∈[22,25]:=by simpa using Array.mem_of_getElem? ht
 simpa using List.all_eq_true.1 regimeOrder_stand t hm
end Go.Proofs.YtihniipjfdenbaaGreatDoor
