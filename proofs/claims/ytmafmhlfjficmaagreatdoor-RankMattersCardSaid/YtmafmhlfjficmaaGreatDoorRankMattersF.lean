/- RankMatters: closed facts of its row, its shown start. No conditions. -/
import Derived.Test.YtmafmhlfjficmaaGreatDoorWitB
set_option maxRecDepth 100000
namespace Go.Proofs.YtmafmhlfjficmaaGreatDoor
open Go Go.ChangeShapes Go.WideShapes Go.ChangeAt Go.RowKit
theorem paramsRankMatters :Tryz.f7.params=#[28,3,3,29]:=by kernel_rfl
theorem resultsRankMatters :Tryz.f7.resultTypes=#[4]:=by kernel_rfl
theorem rankMatters_witness (os:Os){H:Type}(enc:TypeId×Value->H):∃(w:World) (tape:Tape) (i:Input),w.os=os/\ (w.forCall tape i).Shaped Tryz.checked.prog/\ i.vars=[]/\ Input.okWide Tryz.checked.prog (w.forCall tape i) .any w.heap.size 7 i/\
  ((Rows.rankMattersSpec.pre enc Tryz.checked.prog Tryz.f7 [] false (w.forCall tape i).memory i.args/\ laidMetH Tryz.prog laid5 (w.forCall tape i).memory)/\ sizedMet enc Tryz.checked.prog Tryz.f7 (OpenSpec.ofChange Rows.rankMattersSpec) false (w.forCall tape i).memory i.args)/\ ({}:Assume).holds Tryz.checked.prog (lone (Frame.enter Tryz.checked.prog 7 i.args .normal) [] (w.forCall tape i)):=
 ChangeSpec.witness_shaped (enc:=enc) (C:=Tryz.checked) (os:=os) (X:=fun w _=>laidMetH Tryz.prog laid5 w) false (World.doorLaid Tryz.prog 2000 os) #[lawV,.int .i64 0,.int .i64 0,.slice none 0 0] 8 rfl (World.shaped_of_RefB (by kernel_rfl) (by kernel_rfl)) (by kernel_rfl) (by kernel_rfl) (by kernel_rfl) (door_met os _)
theorem rankMatters_j0 :Rows.rankMattersRow.wf (OpenSpec.ofChange Rows.rankMattersSpec)=true:=by kernel_rfl
theorem rankMatters_j3 :Tryz.f7.params.all (Tryz.prog.readableRec ·)=true:=by kernel_rfl
theorem rankMatters_j4 :namedTie Tryz.prog Rows.rankMattersRow.named Rows.rankMattersSpec.vars=true:=by kernel_rfl
theorem rankMatters_j5 :(Rows.rankMattersRow.stops==[])=true:=by kernel_rfl
theorem rankMatters_j7 :(Rows.rankMattersRow.knobs==[])=true:=by kernel_rfl
theorem rankMatters_j9 :(Rows.rankMattersRow.inPlace==Tryz.prog.inPlace 7)=true:=by kernel_rfl
theorem rankMatters_j10 :(Rows.rankMattersRow.unfollowed==Tryz.prog.unfollowed 7)=true:=by kernel_rfl
theorem rankMatters_j11 :(Rows.rankMattersRow.recurses==Tryz.prog.recurses 7)=true:=by kernel_rfl
theorem rankMatters_j12 :(Rows.rankMattersRow.named==Tryz.prog.varsNamed 7)=true:=by kernel_rfl
theorem rankMatters_j13 :(Rows.rankMattersRow.maps==(Tryz.f7.params.toList++Rows.rankMattersSpec.plain.varTypes Tryz.prog).any (Tryz.prog.mapsRec ·))=true:=by kernel_rfl
theorem rankMatters_j14 :(Rows.rankMattersRow.ifaces==(Tryz.f7.params.toList++Rows.rankMattersSpec.plain.varTypes Tryz.prog).any (Tryz.prog.ifacesRec ·))=true:=by kernel_rfl
theorem rankMatters_j15 :(Rows.rankMattersRow.mapsOut==Tryz.prog.mapsAmong Tryz.f7.resultTypes.toList)=true:=by kernel_rfl
theorem rankMatters_j16 :(Rows.rankMattersRow.loops==(Tryz.f7.params.toList++Rows.rankMattersSpec.plain.varTypes Tryz.prog).any (Tryz.prog.loopsFrom ·))=true:=by kernel_rfl
theorem rankMatters_j17 :(Rows.rankMattersRow.wideKeys==(Tryz.f7.params.toList++Rows.rankMattersSpec.plain.varTypes Tryz.prog++Tryz.f7.resultTypes.toList).any (Tryz.prog.wideKeysFrom ·))=true:=by kernel_rfl
theorem rankMatters_j18 :Rows.rankMattersSpec.vars.all (Tryz.prog.varReadable ·)=true:=by kernel_rfl
theorem rankMatters_j19 :Tryz.f7.resultTypes.all (fun t=>Tryz.prog.readableRec t&& decide (t<Tryz.prog.types.size))=true:=by kernel_rfl
theorem rankMatters_j20 :(Rows.rankMattersRow.ifacesOut==Tryz.f7.resultTypes.toList.any (Tryz.prog.ifacesRec ·))=true:=by kernel_rfl
theorem rankMatters_j21 :(Rows.rankMattersRow.loopsOut==Tryz.f7.resultTypes.toList.any (Tryz.prog.loopsFrom ·))=true:=by kernel_rfl
theorem rankMatters_j22 :(Rows.rankMattersRow.plainKeys==Tryz.prog.plainKeys)=true:=by kernel_rfl
theorem rankMatters_j23 :Rows.rankMattersRow.shortTexts.isNone=true:=by kernel_rfl
theorem rankMatters_j26 :(Rows.rankMattersRow.lifted==Tryz.prog.liftsFinal)=true:=by kernel_rfl
theorem rankMatters_j27 :(Tryz.prog.make==some Rows.rankMattersRow.make)=true:=by kernel_rfl
theorem rankMatters_j28 :(Rows.rankMattersRow.kinds==(if Rows.rankMattersRow.domain.isEmpty then[]else Tryz.f7.params.toList.map fun t=>match Tryz.prog.underlying t with | some (.int k)=>some k | _=>none))=true:=by kernel_rfl
theorem rankMatters_j29 :(Rows.rankMattersRow.pinned==Rows.rankMattersRow.pinnedBy)=true:=by kernel_rfl
theorem rankMatters_j30 :(Rows.rankMattersRow.veiled==(Tryz.f7.params.toList++Rows.rankMattersSpec.plain.varTypes Tryz.prog++Tryz.f7.resultTypes.toList).any (Tryz.prog.veiledRec ·))=true:=by kernel_rfl
theorem rankMatters_j31 :Rows.rankMattersRow.veiledFits Tryz.prog Tryz.f7.params.toList (Tryz.f7.params.toList++Rows.rankMattersSpec.plain.varTypes Tryz.prog++Tryz.f7.resultTypes.toList)=true:=by kernel_rfl
theorem rankMatters_facts :joinedFacts Tryz.prog 7 Tryz.f7 Rows.rankMattersSpec Rows.rankMattersRow=true:=
 and1 (and1 (and1 (and1 (and1 (and1 (and1 (and1 (and1 (and1 (and1 (and1 (and1 (and1 (and1 (and1 (and1 (and1 (and1 (and1 (and1 (and1 (and1 (and1 (and1 (and1 (and1 (and1 (and1 (and1 (and1 (rankMatters_j0) laidOut) jRowed) rankMatters_j3) rankMatters_j4) rankMatters_j5) jStops) rankMatters_j7) jKnobs) rankMatters_j9) rankMatters_j10) rankMatters_j11) rankMatters_j12) rankMatters_j13) rankMatters_j14) rankMatters_j15) rankMatters_j16) rankMatters_j17) rankMatters_j18) rankMatters_j19) rankMatters_j20) rankMatters_j21) rankMatters_j22) rankMatters_j23) jHeard) jEnter) rankMatters_j26) rankMatters_j27) rankMatters_j28) rankMatters_j29) rankMatters_j30) rankMatters_j31
theorem rankMatters_fn :Tryz.prog.funcNamed Rows.rankMattersRow.func=some 7:=by kernel_rfl
theorem rankMatters_inst :Tryz.f7.isInstance Tryz.prog Rows.rankMattersRow.origin Rows.rankMattersRow.targs:=of_decide_eq_true (by kernel_rfl)
theorem rankMatters_wrap :Tryz.f7.isWrapper Tryz.prog Rows.rankMattersRow.wrapper Rows.rankMattersRow.mainSum:=by
 unfold Func.isWrapper;first | (rw[if_pos (by decide+kernel)];kernel_rfl) | (rw[if_neg (by decide+kernel)];exact⟨rfl,rfl⟩)
theorem rankMatters_text :Rows.rankMattersRow.wfByText (OpenSpec.ofChange Rows.rankMattersSpec)=true:=by kernel_rfl
theorem rankMatters_main :Tryz.pinned.checked.prog.mainIs=some (true, "0b4fed6cddc5a272c75ec3ec46e1d8ee70ba1c3e553103cc2fe4e154f773ac8b".toList):=by kernel_rfl
theorem rankMatters_goes :false=Rows.rankMattersRow.goesBy Tryz.pinned.checked.prog:=by kernel_rfl
theorem rankMatters_stand :([28,3,3,29].all fun u=> !Tryz.prog.wantsStandIn u)=true:=by kernel_rfl
theorem rankMatters_looks :∀f fn,Tryz.prog.funcNamed Rows.rankMattersRow.func=some f->Tryz.prog.funcs[f]? =some fn->true=Tryz.prog.looks []/\ ∀(j:Nat) t,fn.params[j]? =some t->Tryz.prog.wantsStandIn t=false:=by
 intro f fn hf hfn;obtain rfl:f=7:=(Option.some.inj (rankMatters_fn.symm.trans hf)).symm;obtain rfl:fn=Tryz.f7:=(Option.some.inj (Tryz.func7.symm.trans hfn)).symm;refine⟨jLooks,fun j t ht=>?_⟩;rw[paramsRankMatters]at ht;have hm:t∈[28,3,3,29]:=by simpa using Array.mem_of_getElem? ht
 simpa using List.all_eq_true.1 rankMatters_stand t hm
end Go.Proofs.YtmafmhlfjficmaaGreatDoor
