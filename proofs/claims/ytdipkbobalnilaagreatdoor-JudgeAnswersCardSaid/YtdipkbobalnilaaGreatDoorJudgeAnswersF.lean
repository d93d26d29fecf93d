/- JudgeAnswers: closed facts of its row, its shown start. No conditions. -/
import Derived.Test.YtdipkbobalnilaaGreatDoorAl
import Derived.Test.YtdipkbobalnilaaGreatDoorWitB
set_option maxRecDepth 100000
namespace Go.Proofs.YtdipkbobalnilaaGreatDoor
open Go.Proofs.Tryz
open Go Go.ChangeShapes Go.WideShapes Go.ChangeAt Go.RowKit
theorem qq:f4.params=#[28,9,29]:=by kernel_rfl
theorem Ps:f4.resultTypes=#[4]:=by kernel_rfl
theorem pr(a:Os){H:Type}(enc:TypeId×Ea->H):∃(w:Ca) (tape:Tape) (i:Input),w.os=a/\(w.forCall tape i).Shaped Tryz.checked.prog/\i.vars=[]/\Input.okWide Tryz.checked.prog (w.forCall tape i) .any w.heap.size 4 i/\
  ((Rows.judgeAnswersSpec.pre enc Tryz.checked.prog f4 [] false (w.forCall tape i).memory i.args/\laidMetH prog iA (w.forCall tape i).memory)/\sizedMet enc Tryz.checked.prog f4 (OpenSpec.ofChange Rows.judgeAnswersSpec) false (w.forCall tape i).memory i.args)/\({}:Assume).holds Tryz.checked.prog (lone (Frame.enter Tryz.checked.prog 4 i.args .normal) [] (w.forCall tape i)):=
 ChangeSpec.witness_shaped (enc:=enc) (C:=Tryz.checked) (os:=a) (X:=λw _=>laidMetH prog iA w) false (World.doorLaid prog 2000 a) #[afl,.string ⟨#[]⟩,Ua] 8 rfl (World.shaped_of_RefB Ha Ha) Ha Ha Ha (RS a _)
theorem yw:Rows.judgeAnswersRow.wf (OpenSpec.ofChange Rows.judgeAnswersSpec)=true:=by kernel_rfl
theorem Hx:f4.params.all (prog.readableRec ·)=true:=by kernel_rfl
theorem Ox:namedTie prog Rows.judgeAnswersRow.named Rows.judgeAnswersSpec.vars=true:=by kernel_rfl
theorem Px:(Rows.judgeAnswersRow.stops==[])=true:=by kernel_rfl
theorem Qx:(Rows.judgeAnswersRow.knobs==[])=true:=by kernel_rfl
theorem Rx:(Rows.judgeAnswersRow.inPlace==prog.inPlace 4)=true:=by kernel_rfl
theorem Au:(Rows.judgeAnswersRow.unfollowed==prog.unfollowed 4)=true:=by kernel_rfl
theorem Lv:(Rows.judgeAnswersRow.recurses==prog.recurses 4)=true:=by kernel_rfl
theorem Yv:(Rows.judgeAnswersRow.named==prog.varsNamed 4)=true:=by kernel_rfl
theorem Zv:(Rows.judgeAnswersRow.maps==(f4.params.toList++Rows.judgeAnswersSpec.plain.varTypes prog).any (prog.mapsRec ·))=true:=by kernel_rfl
theorem aw:(Rows.judgeAnswersRow.ifaces==(f4.params.toList++Rows.judgeAnswersSpec.plain.varTypes prog).any (prog.ifacesRec ·))=true:=by kernel_rfl
theorem cw:(Rows.judgeAnswersRow.mapsOut==prog.mapsAmong f4.resultTypes.toList)=true:=by kernel_rfl
theorem dw:(Rows.judgeAnswersRow.loops==(f4.params.toList++Rows.judgeAnswersSpec.plain.varTypes prog).any (prog.loopsFrom ·))=true:=by kernel_rfl
theorem ew:(Rows.judgeAnswersRow.wideKeys==(f4.params.toList++Rows.judgeAnswersSpec.plain.varTypes prog++f4.resultTypes.toList).any (prog.wideKeysFrom ·))=true:=by kernel_rfl
theorem gw:Rows.judgeAnswersSpec.vars.all (prog.varReadable ·)=true:=by kernel_rfl
theorem iw:f4.resultTypes.all (λt=>prog.readableRec t&& decide (t<prog.types.size))=true:=by kernel_rfl
theorem jw:(Rows.judgeAnswersRow.ifacesOut==f4.resultTypes.toList.any (prog.ifacesRec ·))=true:=by kernel_rfl
theorem kw:(Rows.judgeAnswersRow.loopsOut==f4.resultTypes.toList.any (prog.loopsFrom ·))=true:=by kernel_rfl
theorem mw:(Rows.judgeAnswersRow.plainKeys==prog.plainKeys)=true:=by kernel_rfl
theorem nw:Rows.judgeAnswersRow.shortTexts.isNone=true:=by kernel_rfl
theorem ow:(Rows.judgeAnswersRow.lifted==prog.liftsFinal)=true:=by kernel_rfl
theorem pw:(prog.make==some Rows.judgeAnswersRow.make)=true:=by kernel_rfl
theorem qw:(Rows.judgeAnswersRow.kinds==(if Rows.judgeAnswersRow.domain.isEmpty then[]else f4.params.toList.map λt=>match prog.underlying t with|some (.int k)=>some k|_=>none))=true:=by kernel_rfl
theorem sw:(Rows.judgeAnswersRow.pinned==Rows.judgeAnswersRow.pinnedBy)=true:=by kernel_rfl
theorem tw:(Rows.judgeAnswersRow.veiled==(f4.params.toList++Rows.judgeAnswersSpec.plain.varTypes prog++f4.resultTypes.toList).any (prog.veiledRec ·))=true:=by kernel_rfl
theorem uw:Rows.judgeAnswersRow.veiledFits prog f4.params.toList (f4.params.toList++Rows.judgeAnswersSpec.plain.varTypes prog++f4.resultTypes.toList)=true:=by kernel_rfl
theorem Nt:joinedFacts prog 4 f4 Rows.judgeAnswersSpec Rows.judgeAnswersRow=true:=
 fj (fj (fj (fj (fj (fj (fj (fj (fj (fj (fj (fj (fj (fj (fj (fj (fj (fj (fj (fj (fj (fj (fj (fj (fj (fj (fj (fj (fj (fj (fj (yw) laidOut) Y0) Hx) Ox) Px) Z0) Qx) j1) Rx) Au) Lv) Yv) Zv) aw) cw) dw) ew) gw) iw) jw) kw) mw) nw) A1) B1) ow) pw) qw) sw) tw) uw
theorem nr:prog.funcNamed Rows.judgeAnswersRow.func=some 4:=by kernel_rfl
theorem nu:f4.isInstance prog Rows.judgeAnswersRow.origin Rows.judgeAnswersRow.targs:=Uf Ha
theorem vu:f4.isWrapper prog Rows.judgeAnswersRow.wrapper Rows.judgeAnswersRow.mainSum:=by
 unfold Func.isWrapper;first|(rw[Ga (by decide+kernel)];kernel_rfl)|(rw[if_neg (by decide+kernel)];exact⟨rfl,rfl⟩)
theorem wu:Rows.judgeAnswersRow.wfByText (OpenSpec.ofChange Rows.judgeAnswersSpec)=true:=by kernel_rfl
theorem xu:Tryz.pinned.checked.prog.mainIs=some (true, "8e34ab3d0cab2b8912880b52121bf8216cc80c8880f53924f58f18eafe663808".toList):=by kernel_rfl
theorem yu:false=Rows.judgeAnswersRow.goesBy Tryz.pinned.checked.prog:=by kernel_rfl
theorem Wt:([28,9,29].all λu=> !prog.wantsStandIn u)=true:=by kernel_rfl
theorem Ot:∀f a,prog.funcNamed Rows.judgeAnswersRow.func=some f->prog.funcs[f]? =some a->true=prog.looks []/\∀(j:Nat) t,a.params[j]? =some t->prog.wantsStandIn t=false:=by
 intro f a d b;obtain rfl:f=4:=(Qe (nr.symm.trans d)).symm;obtain rfl:a=f4:=(Qe (func4.symm.trans b)).symm;refine⟨C1,λj t c=>?_⟩;rw[qq]at c;have e:t∈[28,9,29]:=by simpa using Array.mem_of_getElem? c
 simpa using List.all_eq_true.1 Wt t e
end Go.Proofs.YtdipkbobalnilaaGreatDoor
