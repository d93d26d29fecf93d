/- RankBest: closed facts of its row, its shown start. No conditions. -/
import Derived.Test.YtmafmhlfjficmaaGreatDoorWitB
set_option maxRecDepth 100000
namespace Go.Proofs.YtmafmhlfjficmaaGreatDoor
open Go Go.ChangeShapes Go.WideShapes Go.ChangeAt Go.RowKit
theorem paramsRankBest :Tryz.f6.params=#[28,29]:=by kernel_rfl
theorem resultsRankBest :Tryz.f6.resultTypes=#[4]:=by kernel_rfl
theorem rankBest_witness (os:Os){H:Type}(enc:TypeId×Value->H):∃(w:World) (tape:Tape) (i:Input),w.os=os/\ (w.forCall tape i).Shaped Tryz.checked.prog/\ i.vars=[]/\ Input.okWide Tryz.checked.prog (w.forCall tape i) .any w.heap.size 6 i/\
  ((Rows.rankBestSpec.pre enc Tryz.checked.prog Tryz.f6 [] false (w.forCall tape i).memory i.args/\ laidMetH Tryz.prog laid5 (w.forCall tape i).memory)/\ sizedMet enc Tryz.checked.prog Tryz.f6 (OpenSpec.ofChange Rows.rankBestSpec) false (w.forCall tape i).memory i.args)/\ ({}:Assume).holds Tryz.checked.prog (lone (Frame.enter Tryz.checked.prog 6 i.args .normal) [] (w.forCall tape i)):=
 ChangeSpec.witness_shaped (enc:=enc) (C:=Tryz.checked) (os:=os) (X:=fun w _=>laidMetH Tryz.prog laid5 w) false (World.doorLaid Tryz.prog 2000 os) #[lawV,.slice none 0 0] 8 rfl (World.shaped_of_RefB (by kernel_rfl) (by kernel_rfl)) (by kernel_rfl) (by kernel_rfl) (by kernel_rfl) (door_met os _)
theorem rankBest_j0 :Rows.rankBestRow.wf (OpenSpec.ofChange Rows.rankBestSpec)=true:=by kernel_rfl
theorem rankBest_j3 :Tryz.f6.params.all (Tryz.prog.readableRec ·)=true:=by kernel_rfl
theorem rankBest_j4 :namedTie Tryz.prog Rows.rankBestRow.named Rows.rankBestSpec.vars=true:=by kernel_rfl
theorem rankBest_j5 :(Rows.rankBestRow.stops==[])=true:=by kernel_rfl
theorem rankBest_j7 :(Rows.rankBestRow.knobs==[])=true:=by kernel_rfl
theorem rankBest_j9 :(Rows.rankBestRow.inPlace==Tryz.prog.inPlace 6)=true:=by kernel_rfl
theorem rankBest_j10 :(Rows.rankBestRow.unfollowed==Tryz.prog.unfollowed 6)=true:=by kernel_rfl
theorem rankBest_j11 :(Rows.rankBestRow.recurses==Tryz.prog.recurses 6)=true:=by kernel_rfl
theorem rankBest_j12 :(Rows.rankBestRow.named==Tryz.prog.varsNamed 6)=true:=by kernel_rfl
theorem rankBest_j13 :(Rows.rankBestRow.maps==(Tryz.f6.params.toList++Rows.rankBestSpec.plain.varTypes Tryz.prog).any (Tryz.prog.mapsRec ·))=true:=by kernel_rfl
theorem rankBest_j14 :(Rows.rankBestRow.ifaces==(Tryz.f6.params.toList++Rows.rankBestSpec.plain.varTypes Tryz.prog).any (Tryz.prog.ifacesRec ·))=true:=by kernel_rfl
theorem rankBest_j15 :(Rows.rankBestRow.mapsOut==Tryz.prog.mapsAmong Tryz.f6.resultTypes.toList)=true:=by kernel_rfl
theorem rankBest_j16 :(Rows.rankBestRow.loops==(Tryz.f6.params.toList++Rows.rankBestSpec.plain.varTypes Tryz.prog).any (Tryz.prog.loopsFrom ·))=true:=by kernel_rfl
theorem rankBest_j17 :(Rows.rankBestRow.wideKeys==(Tryz.f6.params.toList++Rows.rankBestSpec.plain.varTypes Tryz.prog++Tryz.f6.resultTypes.toList).any (Tryz.prog.wideKeysFrom ·))=true:=by kernel_rfl
theorem rankBest_j18 :Rows.rankBestSpec.vars.all (Tryz.prog.varReadable ·)=true:=by kernel_rfl
theorem rankBest_j19 :Tryz.f6.resultTypes.all (fun t=>Tryz.prog.readableRec t&& decide (t<Tryz.prog.types.size))=true:=by kernel_rfl
theorem rankBest_j20 :(Rows.rankBestRow.ifacesOut==Tryz.f6.resultTypes.toList.any (Tryz.prog.ifacesRec ·))=true:=by kernel_rfl
theorem rankBest_j21 :(Rows.rankBestRow.loopsOut==Tryz.f6.resultTypes.toList.any (Tryz.prog.loopsFrom ·))=true:=by kernel_rfl
theorem rankBest_j22 :(Rows.rankBestRow.plainKeys==Tryz.prog.plainKeys)=true:=by kernel_rfl
theorem rankBest_j23 :Rows.rankBestRow.shortTexts.isNone=true:=by kernel_rfl
theorem rankBest_j26 :(Rows.rankBestRow.lifted==Tryz.prog.liftsFinal)=true:=by kernel_rfl
theorem rankBest_j27 :(Tryz.prog.make==some Rows.rankBestRow.make)=true:=by kernel_rfl
theorem rankBest_j28 :(Rows.rankBestRow.kinds==(if Rows.rankBestRow.domain.isEmpty then[]else Tryz.f6.params.toList.map fun t=>match Tryz.prog.underlying t with | some (.int k)=>some k | _=>none))=true:=by kernel_rfl
theorem rankBest_j29 :(Rows.rankBestRow.pinned==Rows.rankBestRow.pinnedBy)=true:=by kernel_rfl
theorem rankBest_j30 :(Rows.rankBestRow.veiled==(Tryz.f6.params.toList++Rows.rankBestSpec.plain.varTypes Tryz.prog++Tryz.f6.resultTypes.toList).any (Tryz.prog.veiledRec ·))=true:=by kernel_rfl
theorem rankBest_j31 :Rows.rankBestRow.veiledFits Tryz.prog Tryz.f6.params.toList (Tryz.f6.params.toList++Rows.rankBestSpec.plain.varTypes Tryz.prog++Tryz.f6.resultTypes.toList)=true:=by kernel_rfl
theorem rankBest_facts :joinedFacts Tryz.prog 6 Tryz.f6 Rows.rankBestSpec Rows.rankBestRow=true:=
 and1 (and1 (and1 (and1 (and1 (and1 (and1 (and1 (and1 (and1 (and1 (and1 (and1 (and1 (and1 (and1 (and1 (and1 (and1 (and1 (and1 (and1 (and1 (and1 (and1 (and1 (and1 (and1 (and1 (and1 (and1 (rankBest_j0) laidOut) jRowed) rankBest_j3) rankBest_j4) rankBest_j5) jStops) rankBest_j7) jKnobs) rankBest_j9) rankBest_j10) rankBest_j11) rankBest_j12) rankBest_j13) rankBest_j14) rankBest_j15) rankBest_j16) rankBest_j17) rankBest_j18) rankBest_j19) rankBest_j20) rankBest_j21) rankBest_j22) rankBest_j23) jHeard) jEnter) rankBest_j26) rankBest_j27) rankBest_j28) rankBest_j29) rankBest_j30) rankBest_j31
theorem rankBest_fn :Tryz.prog.funcNamed Rows.rankBestRow.func=some 6:=by kernel_rfl
theorem rankBest_inst :Tryz.f6.isInstance Tryz.prog Rows.rankBestRow.origin Rows.rankBestRow.targs:=of_decide_eq_true (by kernel_rfl)
theorem rankBest_wrap :Tryz.f6.isWrapper Tryz.prog Rows.rankBestRow.wrapper Rows.rankBestRow.mainSum:=by
 unfold Func.isWrapper;first | (rw[if_pos (by decide+kernel)];kernel_rfl) | (rw[if_neg (by decide+kernel)];exact⟨rfl,rfl⟩)
theorem rankBest_text :Rows.rankBestRow.wfByText (OpenSpec.ofChange Rows.rankBestSpec)=true:=by kernel_rfl
theorem rankBest_main :Tryz.pinned.checked.prog.mainIs=some (true, "0b4fed6cddc5a272c75ec3ec46e1d8ee70ba1c3e553103cc2fe4e154f773ac8b".toList):=by kernel_rfl
theorem rankBest_goes :false=Rows.rankBestRow.goesBy Tryz.pinned.checked.prog:=by kernel_rfl
theorem rankBest_stand :([28,29].all fun u=> !Tryz.prog.wantsStandIn u)=true:=by kernel_rfl
theorem rankBest_looks :∀f fn,Tryz.prog.funcNamed Rows.rankBestRow.func=some f->Tryz.prog.funcs[f]? =some fn->true=Tryz.prog.looks []/\ ∀(j:Nat) t,fn.params[j]? =some t->Tryz.prog.wantsStandIn t=false:=by
 intro f fn hf hfn;obtain rfl:f=6:=(Option.some.inj (rankBest_fn.symm.trans hf)).symm;obtain rfl:fn=Tryz.f6:=(Option.some.inj (Tryz.func6.symm.trans hfn)).symm;refine⟨jLooks,fun j t ht=>?_⟩;rw[paramsRankBest]at ht;have hm:t∈[28,29]:=by simpa using Array.mem_of_getElem? ht
 simpa using List.all_eq_true.1 rankBest_stand t hm
end Go.Proofs.YtmafmhlfjficmaaGreatDoor
