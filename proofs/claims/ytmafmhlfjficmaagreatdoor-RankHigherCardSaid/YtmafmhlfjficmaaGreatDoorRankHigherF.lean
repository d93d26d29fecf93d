/- RankHigher: closed facts of its row, its shown start. No conditions. -/
import Derived.Test.YtmafmhlfjficmaaGreatDoorWitB
set_option maxRecDepth 100000
namespace Go.Proofs.YtmafmhlfjficmaaGreatDoor
open Go Go.ChangeShapes Go.WideShapes Go.ChangeAt Go.RowKit
theorem paramsRankHigher :Tryz.f5.params=#[28,3,3]:=by kernel_rfl
theorem resultsRankHigher :Tryz.f5.resultTypes=#[4]:=by kernel_rfl
theorem rankHigher_witness (os:Os){H:Type}(enc:TypeId×Value->H):∃(w:World) (tape:Tape) (i:Input),w.os=os/\ (w.forCall tape i).Shaped Tryz.checked.prog/\ i.vars=[]/\ Input.okWide Tryz.checked.prog (w.forCall tape i) .any w.heap.size 5 i/\
  ((Rows.rankHigherSpec.pre enc Tryz.checked.prog Tryz.f5 [] false (w.forCall tape i).memory i.args/\ laidMetH Tryz.prog laid5 (w.forCall tape i).memory)/\ sizedMet enc Tryz.checked.prog Tryz.f5 (OpenSpec.ofChange Rows.rankHigherSpec) false (w.forCall tape i).memory i.args)/\ ({}:Assume).holds Tryz.checked.prog (lone (Frame.enter Tryz.checked.prog 5 i.args .normal) [] (w.forCall tape i)):=
 ChangeSpec.witness_shaped (enc:=enc) (C:=Tryz.checked) (os:=os) (X:=fun w _=>laidMetH Tryz.prog laid5 w) false (World.doorLaid Tryz.prog 2000 os) #[lawV,.int .i64 0,.int .i64 0] 8 rfl (World.shaped_of_RefB (by kernel_rfl) (by kernel_rfl)) (by kernel_rfl) (by kernel_rfl) (by kernel_rfl) (door_met os _)
theorem rankHigher_j0 :Rows.rankHigherRow.wf (OpenSpec.ofChange Rows.rankHigherSpec)=true:=by kernel_rfl
theorem rankHigher_j3 :Tryz.f5.params.all (Tryz.prog.readableRec ·)=true:=by kernel_rfl
theorem rankHigher_j4 :namedTie Tryz.prog Rows.rankHigherRow.named Rows.rankHigherSpec.vars=true:=by kernel_rfl
theorem rankHigher_j5 :(Rows.rankHigherRow.stops==[])=true:=by kernel_rfl
theorem rankHigher_j7 :(Rows.rankHigherRow.knobs==[])=true:=by kernel_rfl
theorem rankHigher_j9 :(Rows.rankHigherRow.inPlace==Tryz.prog.inPlace 5)=true:=by kernel_rfl
theorem rankHigher_j10 :(Rows.rankHigherRow.unfollowed==Tryz.prog.unfollowed 5)=true:=by kernel_rfl
theorem rankHigher_j11 :(Rows.rankHigherRow.recurses==Tryz.prog.recurses 5)=true:=by kernel_rfl
theorem rankHigher_j12 :(Rows.rankHigherRow.named==Tryz.prog.varsNamed 5)=true:=by kernel_rfl
theorem rankHigher_j13 :(Rows.rankHigherRow.maps==(Tryz.f5.params.toList++Rows.rankHigherSpec.plain.varTypes Tryz.prog).any (Tryz.prog.mapsRec ·))=true:=by kernel_rfl
theorem rankHigher_j14 :(Rows.rankHigherRow.ifaces==(Tryz.f5.params.toList++Rows.rankHigherSpec.plain.varTypes Tryz.prog).any (Tryz.prog.ifacesRec ·))=true:=by kernel_rfl
theorem rankHigher_j15 :(Rows.rankHigherRow.mapsOut==Tryz.prog.mapsAmong Tryz.f5.resultTypes.toList)=true:=by kernel_rfl
theorem rankHigher_j16 :(Rows.rankHigherRow.loops==(Tryz.f5.params.toList++Rows.rankHigherSpec.plain.varTypes Tryz.prog).any (Tryz.prog.loopsFrom ·))=true:=by kernel_rfl
theorem rankHigher_j17 :(Rows.rankHigherRow.wideKeys==(Tryz.f5.params.toList++Rows.rankHigherSpec.plain.varTypes Tryz.prog++Tryz.f5.resultTypes.toList).any (Tryz.prog.wideKeysFrom ·))=true:=by kernel_rfl
theorem rankHigher_j18 :Rows.rankHigherSpec.vars.all (Tryz.prog.varReadable ·)=true:=by kernel_rfl
theorem rankHigher_j19 :Tryz.f5.resultTypes.all (fun t=>Tryz.prog.readableRec t&& decide (t<Tryz.prog.types.size))=true:=by kernel_rfl
theorem rankHigher_j20 :(Rows.rankHigherRow.ifacesOut==Tryz.f5.resultTypes.toList.any (Tryz.prog.ifacesRec ·))=true:=by kernel_rfl
theorem rankHigher_j21 :(Rows.rankHigherRow.loopsOut==Tryz.f5.resultTypes.toList.any (Tryz.prog.loopsFrom ·))=true:=by kernel_rfl
theorem rankHigher_j22 :(Rows.rankHigherRow.plainKeys==Tryz.prog.plainKeys)=true:=by kernel_rfl
theorem rankHigher_j23 :Rows.rankHigherRow.shortTexts.isNone=true:=by kernel_rfl
theorem rankHigher_j26 :(Rows.rankHigherRow.lifted==Tryz.prog.liftsFinal)=true:=by kernel_rfl
theorem rankHigher_j27 :(Tryz.prog.make==some Rows.rankHigherRow.make)=true:=by kernel_rfl
theorem rankHigher_j28 :(Rows.rankHigherRow.kinds==(if Rows.rankHigherRow.domain.isEmpty then[]else Tryz.f5.params.toList.map fun t=>match Tryz.prog.underlying t with | some (.int k)=>some k | _=>none))=true:=by kernel_rfl
theorem rankHigher_j29 :(Rows.rankHigherRow.pinned==Rows.rankHigherRow.pinnedBy)=true:=by kernel_rfl
theorem rankHigher_j30 :(Rows.rankHigherRow.veiled==(Tryz.f5.params.toList++Rows.rankHigherSpec.plain.varTypes Tryz.prog++Tryz.f5.resultTypes.toList).any (Tryz.prog.veiledRec ·))=true:=by kernel_rfl
theorem rankHigher_j31 :Rows.rankHigherRow.veiledFits Tryz.prog Tryz.f5.params.toList (Tryz.f5.params.toList++Rows.rankHigherSpec.plain.varTypes Tryz.prog++Tryz.f5.resultTypes.toList)=true:=by kernel_rfl
theorem rankHigher_facts :joinedFacts Tryz.prog 5 Tryz.f5 Rows.rankHigherSpec Rows.rankHigherRow=true:=
 and1 (and1 (and1 (and1 (and1 (and1 (and1 (and1 (and1 (and1 (and1 (and1 (and1 (and1 (and1 (and1 (and1 (and1 (and1 (and1 (and1 (and1 (and1 (and1 (and1 (and1 (and1 (and1 (and1 (and1 (and1 (rankHigher_j0) laidOut) jRowed) rankHigher_j3) rankHigher_j4) rankHigher_j5) jStops) rankHigher_j7) jKnobs) rankHigher_j9) rankHigher_j10) rankHigher_j11) rankHigher_j12) rankHigher_j13) rankHigher_j14) rankHigher_j15) rankHigher_j16) rankHigher_j17) rankHigher_j18) rankHigher_j19) rankHigher_j20) rankHigher_j21) rankHigher_j22) rankHigher_j23) jHeard) jEnter) rankHigher_j26) rankHigher_j27) rankHigher_j28) rankHigher_j29) rankHigher_j30) rankHigher_j31
theorem rankHigher_fn :Tryz.prog.funcNamed Rows.rankHigherRow.func=some 5:=by kernel_rfl
theorem rankHigher_inst :Tryz.f5.isInstance Tryz.prog Rows.rankHigherRow.origin Rows.rankHigherRow.targs:=of_decide_eq_true (by kernel_rfl)
theorem rankHigher_wrap :Tryz.f5.isWrapper Tryz.prog Rows.rankHigherRow.wrapper Rows.rankHigherRow.mainSum:=by
 unfold Func.isWrapper;first | (rw[if_pos (by decide+kernel)];kernel_rfl) | (rw[if_neg (by decide+kernel)];exact⟨rfl,rfl⟩)
theorem rankHigher_text :Rows.rankHigherRow.wfByText (OpenSpec.ofChange Rows.rankHigherSpec)=true:=by kernel_rfl
theorem rankHigher_main :Tryz.pinned.checked.prog.mainIs=some (true, "0b4fed6cddc5a272c75ec3ec46e1d8ee70ba1c3e553103cc2fe4e154f773ac8b".toList):=by kernel_rfl
theorem rankHigher_goes :false=Rows.rankHigherRow.goesBy Tryz.pinned.checked.prog:=by kernel_rfl
theorem rankHigher_stand :([28,3,3].all fun u=> !Tryz.prog.wantsStandIn u)=true:=by kernel_rfl
theorem rankHigher_looks :∀f fn,Tryz.prog.funcNamed Rows.rankHigherRow.func=some f->Tryz.prog.funcs[f]? =some fn->true=Tryz.prog.looks []/\ ∀(j:Nat) t,fn.params[j]? =some t->Tryz.prog.wantsStandIn t=false:=by
 intro f fn hf hfn;obtain rfl:f=5:=(Option.some.inj (rankHigher_fn.symm.trans hf)).symm;obtain rfl:fn=Tryz.f5:=(Option.some.inj (Tryz.func5.symm.trans hfn)).symm;refine⟨jLooks,fun j t ht=>?_⟩;rw[paramsRankHigher]at ht;have hm:t∈[28,3,3]:=by simpa using Array.mem_of_getElem? ht
 simpa using List.all_eq_true.1 rankHigher_stand t hm
end Go.Proofs.YtmafmhlfjficmaaGreatDoor
