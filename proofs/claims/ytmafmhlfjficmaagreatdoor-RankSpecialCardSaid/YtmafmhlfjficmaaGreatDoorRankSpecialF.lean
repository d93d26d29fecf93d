/- RankSpecial: closed facts of its row, its shown start. No conditions. -/
import Derived.Test.YtmafmhlfjficmaaGreatDoorWitB
set_option maxRecDepth 100000
namespace Go.Proofs.YtmafmhlfjficmaaGreatDoor
open Go Go.ChangeShapes Go.WideShapes Go.ChangeAt Go.RowKit
theorem paramsRankSpecial :Tryz.f8.params=#[28,3,3,54]:=by kernel_rfl
theorem resultsRankSpecial :Tryz.f8.resultTypes=#[4]:=by kernel_rfl
theorem rankSpecial_witness (os:Os){H:Type}(enc:TypeId×Value->H):∃(w:World) (tape:Tape) (i:Input),w.os=os/\ (w.forCall tape i).Shaped Tryz.checked.prog/\ i.vars=[]/\ Input.okWide Tryz.checked.prog (w.forCall tape i) .any w.heap.size 8 i/\
  ((Rows.rankSpecialSpec.pre enc Tryz.checked.prog Tryz.f8 [] false (w.forCall tape i).memory i.args/\ laidMetH Tryz.prog laid5 (w.forCall tape i).memory)/\ sizedMet enc Tryz.checked.prog Tryz.f8 (OpenSpec.ofChange Rows.rankSpecialSpec) false (w.forCall tape i).memory i.args)/\ ({}:Assume).holds Tryz.checked.prog (lone (Frame.enter Tryz.checked.prog 8 i.args .normal) [] (w.forCall tape i)):=
 ChangeSpec.witness_shaped (enc:=enc) (C:=Tryz.checked) (os:=os) (X:=fun w _=>laidMetH Tryz.prog laid5 w) false (World.doorLaid Tryz.prog 2000 os) #[lawV,.int .i64 0,.int .i64 0,.slice none 0 0] 8 rfl (World.shaped_of_RefB (by kernel_rfl) (by kernel_rfl)) (by kernel_rfl) (by kernel_rfl) (by kernel_rfl) (door_met os _)
theorem rankSpecial_j0 :Rows.rankSpecialRow.wf (OpenSpec.ofChange Rows.rankSpecialSpec)=true:=by kernel_rfl
theorem rankSpecial_j3 :Tryz.f8.params.all (Tryz.prog.readableRec ·)=true:=by kernel_rfl
theorem rankSpecial_j4 :namedTie Tryz.prog Rows.rankSpecialRow.named Rows.rankSpecialSpec.vars=true:=by kernel_rfl
theorem rankSpecial_j5 :(Rows.rankSpecialRow.stops==[])=true:=by kernel_rfl
theorem rankSpecial_j7 :(Rows.rankSpecialRow.knobs==[])=true:=by kernel_rfl
theorem rankSpecial_j9 :(Rows.rankSpecialRow.inPlace==Tryz.prog.inPlace 8)=true:=by kernel_rfl
theorem rankSpecial_j10 :(Rows.rankSpecialRow.unfollowed==Tryz.prog.unfollowed 8)=true:=by kernel_rfl
theorem rankSpecial_j11 :(Rows.rankSpecialRow.recurses==Tryz.prog.recurses 8)=true:=by kernel_rfl
theorem rankSpecial_j12 :(Rows.rankSpecialRow.named==Tryz.prog.varsNamed 8)=true:=by kernel_rfl
theorem rankSpecial_j13 :(Rows.rankSpecialRow.maps==(Tryz.f8.params.toList++Rows.rankSpecialSpec.plain.varTypes Tryz.prog).any (Tryz.prog.mapsRec ·))=true:=by kernel_rfl
theorem rankSpecial_j14 :(Rows.rankSpecialRow.ifaces==(Tryz.f8.params.toList++Rows.rankSpecialSpec.plain.varTypes Tryz.prog).any (Tryz.prog.ifacesRec ·))=true:=by kernel_rfl
theorem rankSpecial_j15 :(Rows.rankSpecialRow.mapsOut==Tryz.prog.mapsAmong Tryz.f8.resultTypes.toList)=true:=by kernel_rfl
theorem rankSpecial_j16 :(Rows.rankSpecialRow.loops==(Tryz.f8.params.toList++Rows.rankSpecialSpec.plain.varTypes Tryz.prog).any (Tryz.prog.loopsFrom ·))=true:=by kernel_rfl
theorem rankSpecial_j17 :(Rows.rankSpecialRow.wideKeys==(Tryz.f8.params.toList++Rows.rankSpecialSpec.plain.varTypes Tryz.prog++Tryz.f8.resultTypes.toList).any (Tryz.prog.wideKeysFrom ·))=true:=by kernel_rfl
theorem rankSpecial_j18 :Rows.rankSpecialSpec.vars.all (Tryz.prog.varReadable ·)=true:=by kernel_rfl
theorem rankSpecial_j19 :Tryz.f8.resultTypes.all (fun t=>Tryz.prog.readableRec t&& decide (t<Tryz.prog.types.size))=true:=by kernel_rfl
theorem rankSpecial_j20 :(Rows.rankSpecialRow.ifacesOut==Tryz.f8.resultTypes.toList.any (Tryz.prog.ifacesRec ·))=true:=by kernel_rfl
theorem rankSpecial_j21 :(Rows.rankSpecialRow.loopsOut==Tryz.f8.resultTypes.toList.any (Tryz.prog.loopsFrom ·))=true:=by kernel_rfl
theorem rankSpecial_j22 :(Rows.rankSpecialRow.plainKeys==Tryz.prog.plainKeys)=true:=by kernel_rfl
theorem rankSpecial_j23 :Rows.rankSpecialRow.shortTexts.isNone=true:=by kernel_rfl
theorem rankSpecial_j26 :(Rows.rankSpecialRow.lifted==Tryz.prog.liftsFinal)=true:=by kernel_rfl
theorem rankSpecial_j27 :(Tryz.prog.make==some Rows.rankSpecialRow.make)=true:=by kernel_rfl
theorem rankSpecial_j28 :(Rows.rankSpecialRow.kinds==(if Rows.rankSpecialRow.domain.isEmpty then[]else Tryz.f8.params.toList.map fun t=>match Tryz.prog.underlying t with | some (.int k)=>some k | _=>none))=true:=by kernel_rfl
theorem rankSpecial_j29 :(Rows.rankSpecialRow.pinned==Rows.rankSpecialRow.pinnedBy)=true:=by kernel_rfl
theorem rankSpecial_j30 :(Rows.rankSpecialRow.veiled==(Tryz.f8.params.toList++Rows.rankSpecialSpec.plain.varTypes Tryz.prog++Tryz.f8.resultTypes.toList).any (Tryz.prog.veiledRec ·))=true:=by kernel_rfl
theorem rankSpecial_j31 :Rows.rankSpecialRow.veiledFits Tryz.prog Tryz.f8.params.toList (Tryz.f8.params.toList++Rows.rankSpecialSpec.plain.varTypes Tryz.prog++Tryz.f8.resultTypes.toList)=true:=by kernel_rfl
theorem rankSpecial_facts :joinedFacts Tryz.prog 8 Tryz.f8 Rows.rankSpecialSpec Rows.rankSpecialRow=true:=
 and1 (and1 (and1 (and1 (and1 (and1 (and1 (and1 (and1 (and1 (and1 (and1 (and1 (and1 (and1 (and1 (and1 (and1 (and1 (and1 (and1 (and1 (and1 (and1 (and1 (and1 (and1 (and1 (and1 (and1 (and1 (rankSpecial_j0) laidOut) jRowed) rankSpecial_j3) rankSpecial_j4) rankSpecial_j5) jStops) rankSpecial_j7) jKnobs) rankSpecial_j9) rankSpecial_j10) rankSpecial_j11) rankSpecial_j12) rankSpecial_j13) rankSpecial_j14) rankSpecial_j15) rankSpecial_j16) rankSpecial_j17) rankSpecial_j18) rankSpecial_j19) rankSpecial_j20) rankSpecial_j21) rankSpecial_j22) rankSpecial_j23) jHeard) jEnter) rankSpecial_j26) rankSpecial_j27) rankSpecial_j28) rankSpecial_j29) rankSpecial_j30) rankSpecial_j31
theorem rankSpecial_fn :Tryz.prog.funcNamed Rows.rankSpecialRow.func=some 8:=by kernel_rfl
theorem rankSpecial_inst :Tryz.f8.isInstance Tryz.prog Rows.rankSpecialRow.origin Rows.rankSpecialRow.targs:=of_decide_eq_true (by kernel_rfl)
theorem rankSpecial_wrap :Tryz.f8.isWrapper Tryz.prog Rows.rankSpecialRow.wrapper Rows.rankSpecialRow.mainSum:=by
 unfold Func.isWrapper;first | (rw[if_pos (by decide+kernel)];kernel_rfl) | (rw[if_neg (by decide+kernel)];exact⟨rfl,rfl⟩)
theorem rankSpecial_text :Rows.rankSpecialRow.wfByText (OpenSpec.ofChange Rows.rankSpecialSpec)=true:=by kernel_rfl
theorem rankSpecial_main :Tryz.pinned.checked.prog.mainIs=some (true, "0b4fed6cddc5a272c75ec3ec46e1d8ee70ba1c3e553103cc2fe4e154f773ac8b".toList):=by kernel_rfl
theorem rankSpecial_goes :false=Rows.rankSpecialRow.goesBy Tryz.pinned.checked.prog:=by kernel_rfl
theorem rankSpecial_stand :([28,3,3,54].all fun u=> !Tryz.prog.wantsStandIn u)=true:=by kernel_rfl
theorem rankSpecial_looks :∀f fn,Tryz.prog.funcNamed Rows.rankSpecialRow.func=some f->Tryz.prog.funcs[f]? =some fn->true=Tryz.prog.looks []/\ ∀(j:Nat) t,fn.params[j]? =some t->Tryz.prog.wantsStandIn t=false:=by
 intro f fn hf hfn;obtain rfl:f=8:=(Option.some.inj (rankSpecial_fn.symm.trans hf)).symm;obtain rfl:fn=Tryz.f8:=(Option.some.inj (Tryz.func8.symm.trans hfn)).symm;refine⟨jLooks,fun j t ht=>?_⟩;rw[paramsRankSpecial]at ht;have hm:t∈[28,3,3,54]:=by simpa using Array.mem_of_getElem? ht
 simpa using List.all_eq_true.1 rankSpecial_stand t hm
end Go.Proofs.YtmafmhlfjficmaaGreatDoor
