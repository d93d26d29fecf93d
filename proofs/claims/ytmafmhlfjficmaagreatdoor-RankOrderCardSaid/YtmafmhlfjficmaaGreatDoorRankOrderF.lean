/- RankOrder: closed facts of its row, its shown start. No conditions. -/
import Derived.Test.YtmafmhlfjficmaaGreatDoorWitB
set_option maxRecDepth 100000
namespace Go.Proofs.YtmafmhlfjficmaaGreatDoor
open Go Go.ChangeShapes Go.WideShapes Go.ChangeAt Go.RowKit
theorem paramsRankOrder :Tryz.f4.params=#[28,3,3,3]:=by kernel_rfl
theorem resultsRankOrder :Tryz.f4.resultTypes=#[4]:=by kernel_rfl
theorem rankOrder_witness (os:Os){H:Type}(enc:TypeId×Value->H):∃(w:World) (tape:Tape) (i:Input),w.os=os/\ (w.forCall tape i).Shaped Tryz.checked.prog/\ i.vars=[]/\ Input.okWide Tryz.checked.prog (w.forCall tape i) .any w.heap.size 4 i/\
  ((Rows.rankOrderSpec.pre enc Tryz.checked.prog Tryz.f4 [] false (w.forCall tape i).memory i.args/\ laidMetH Tryz.prog laid5 (w.forCall tape i).memory)/\ sizedMet enc Tryz.checked.prog Tryz.f4 (OpenSpec.ofChange Rows.rankOrderSpec) false (w.forCall tape i).memory i.args)/\ ({}:Assume).holds Tryz.checked.prog (lone (Frame.enter Tryz.checked.prog 4 i.args .normal) [] (w.forCall tape i)):=
 ChangeSpec.witness_shaped (enc:=enc) (C:=Tryz.checked) (os:=os) (X:=fun w _=>laidMetH Tryz.prog laid5 w) false (World.doorLaid Tryz.prog 2000 os) #[lawV,.int .i64 0,.int .i64 0,.int .i64 0] 8 rfl (World.shaped_of_RefB (by kernel_rfl) (by kernel_rfl)) (by kernel_rfl) (by kernel_rfl) (by kernel_rfl) (door_met os _)
theorem rankOrder_j0 :Rows.rankOrderRow.wf (OpenSpec.ofChange Rows.rankOrderSpec)=true:=by kernel_rfl
theorem rankOrder_j3 :Tryz.f4.params.all (Tryz.prog.readableRec ·)=true:=by kernel_rfl
theorem rankOrder_j4 :namedTie Tryz.prog Rows.rankOrderRow.named Rows.rankOrderSpec.vars=true:=by kernel_rfl
theorem rankOrder_j5 :(Rows.rankOrderRow.stops==[])=true:=by kernel_rfl
theorem rankOrder_j7 :(Rows.rankOrderRow.knobs==[])=true:=by kernel_rfl
theorem rankOrder_j9 :(Rows.rankOrderRow.inPlace==Tryz.prog.inPlace 4)=true:=by kernel_rfl
theorem rankOrder_j10 :(Rows.rankOrderRow.unfollowed==Tryz.prog.unfollowed 4)=true:=by kernel_rfl
theorem rankOrder_j11 :(Rows.rankOrderRow.recurses==Tryz.prog.recurses 4)=true:=by kernel_rfl
theorem rankOrder_j12 :(Rows.rankOrderRow.named==Tryz.prog.varsNamed 4)=true:=by kernel_rfl
theorem rankOrder_j13 :(Rows.rankOrderRow.maps==(Tryz.f4.params.toList++Rows.rankOrderSpec.plain.varTypes Tryz.prog).any (Tryz.prog.mapsRec ·))=true:=by kernel_rfl
theorem rankOrder_j14 :(Rows.rankOrderRow.ifaces==(Tryz.f4.params.toList++Rows.rankOrderSpec.plain.varTypes Tryz.prog).any (Tryz.prog.ifacesRec ·))=true:=by kernel_rfl
theorem rankOrder_j15 :(Rows.rankOrderRow.mapsOut==Tryz.prog.mapsAmong Tryz.f4.resultTypes.toList)=true:=by kernel_rfl
theorem rankOrder_j16 :(Rows.rankOrderRow.loops==(Tryz.f4.params.toList++Rows.rankOrderSpec.plain.varTypes Tryz.prog).any (Tryz.prog.loopsFrom ·))=true:=by kernel_rfl
theorem rankOrder_j17 :(Rows.rankOrderRow.wideKeys==(Tryz.f4.params.toList++Rows.rankOrderSpec.plain.varTypes Tryz.prog++Tryz.f4.resultTypes.toList).any (Tryz.prog.wideKeysFrom ·))=true:=by kernel_rfl
theorem rankOrder_j18 :Rows.rankOrderSpec.vars.all (Tryz.prog.varReadable ·)=true:=by kernel_rfl
theorem rankOrder_j19 :Tryz.f4.resultTypes.all (fun t=>Tryz.prog.readableRec t&& decide (t<Tryz.prog.types.size))=true:=by kernel_rfl
theorem rankOrder_j20 :(Rows.rankOrderRow.ifacesOut==Tryz.f4.resultTypes.toList.any (Tryz.prog.ifacesRec ·))=true:=by kernel_rfl
theorem rankOrder_j21 :(Rows.rankOrderRow.loopsOut==Tryz.f4.resultTypes.toList.any (Tryz.prog.loopsFrom ·))=true:=by kernel_rfl
theorem rankOrder_j22 :(Rows.rankOrderRow.plainKeys==Tryz.prog.plainKeys)=true:=by kernel_rfl
theorem rankOrder_j23 :Rows.rankOrderRow.shortTexts.isNone=true:=by kernel_rfl
theorem rankOrder_j26 :(Rows.rankOrderRow.lifted==Tryz.prog.liftsFinal)=true:=by kernel_rfl
theorem rankOrder_j27 :(Tryz.prog.make==some Rows.rankOrderRow.make)=true:=by kernel_rfl
theorem rankOrder_j28 :(Rows.rankOrderRow.kinds==(if Rows.rankOrderRow.domain.isEmpty then[]else Tryz.f4.params.toList.map fun t=>match Tryz.prog.underlying t with | some (.int k)=>some k | _=>none))=true:=by kernel_rfl
theorem rankOrder_j29 :(Rows.rankOrderRow.pinned==Rows.rankOrderRow.pinnedBy)=true:=by kernel_rfl
theorem rankOrder_j30 :(Rows.rankOrderRow.veiled==(Tryz.f4.params.toList++Rows.rankOrderSpec.plain.varTypes Tryz.prog++Tryz.f4.resultTypes.toList).any (Tryz.prog.veiledRec ·))=true:=by kernel_rfl
theorem rankOrder_j31 :Rows.rankOrderRow.veiledFits Tryz.prog Tryz.f4.params.toList (Tryz.f4.params.toList++Rows.rankOrderSpec.plain.varTypes Tryz.prog++Tryz.f4.resultTypes.toList)=true:=by kernel_rfl
theorem rankOrder_facts :joinedFacts Tryz.prog 4 Tryz.f4 Rows.rankOrderSpec Rows.rankOrderRow=true:=
 and1 (and1 (and1 (and1 (and1 (and1 (and1 (and1 (and1 (and1 (and1 (and1 (and1 (and1 (and1 (and1 (and1 (and1 (and1 (and1 (and1 (and1 (and1 (and1 (and1 (and1 (and1 (and1 (and1 (and1 (and1 (rankOrder_j0) laidOut) jRowed) rankOrder_j3) rankOrder_j4) rankOrder_j5) jStops) rankOrder_j7) jKnobs) rankOrder_j9) rankOrder_j10) rankOrder_j11) rankOrder_j12) rankOrder_j13) rankOrder_j14) rankOrder_j15) rankOrder_j16) rankOrder_j17) rankOrder_j18) rankOrder_j19) rankOrder_j20) rankOrder_j21) rankOrder_j22) rankOrder_j23) jHeard) jEnter) rankOrder_j26) rankOrder_j27) rankOrder_j28) rankOrder_j29) rankOrder_j30) rankOrder_j31
theorem rankOrder_fn :Tryz.prog.funcNamed Rows.rankOrderRow.func=some 4:=by kernel_rfl
theorem rankOrder_inst :Tryz.f4.isInstance Tryz.prog Rows.rankOrderRow.origin Rows.rankOrderRow.targs:=of_decide_eq_true (by kernel_rfl)
theorem rankOrder_wrap :Tryz.f4.isWrapper Tryz.prog Rows.rankOrderRow.wrapper Rows.rankOrderRow.mainSum:=by
 unfold Func.isWrapper;first | (rw[if_pos (by decide+kernel)];kernel_rfl) | (rw[if_neg (by decide+kernel)];exact⟨rfl,rfl⟩)
theorem rankOrder_text :Rows.rankOrderRow.wfByText (OpenSpec.ofChange Rows.rankOrderSpec)=true:=by kernel_rfl
theorem rankOrder_main :Tryz.pinned.checked.prog.mainIs=some (true, "0b4fed6cddc5a272c75ec3ec46e1d8ee70ba1c3e553103cc2fe4e154f773ac8b".toList):=by kernel_rfl
theorem rankOrder_goes :false=Rows.rankOrderRow.goesBy Tryz.pinned.checked.prog:=by kernel_rfl
theorem rankOrder_stand :([28,3,3,3].all fun u=> !Tryz.prog.wantsStandIn u)=true:=by kernel_rfl
theorem rankOrder_looks :∀f fn,Tryz.prog.funcNamed Rows.rankOrderRow.func=some f->Tryz.prog.funcs[f]? =some fn->true=Tryz.prog.looks []/\ ∀(j:Nat) t,fn.params[j]? =some t->Tryz.prog.wantsStandIn t=false:=by
 intro f fn hf hfn;obtain rfl:f=4:=(Option.some.inj (rankOrder_fn.symm.trans hf)).symm;obtain rfl:fn=Tryz.f4:=(Option.some.inj (Tryz.func4.symm.trans hfn)).symm;refine⟨jLooks,fun j t ht=>?_⟩;rw[paramsRankOrder]at ht;have hm:t∈[28,3,3,3]:=by simpa using Array.mem_of_getElem? ht
 simpa using List.all_eq_true.1 rankOrder_stand t hm
end Go.Proofs.YtmafmhlfjficmaaGreatDoor
