/- JudgeRegions: closed facts of its row, its shown start. No conditions. -/
import Derived.Test.YtdipkbobalnilaaGreatDoorAl
import Derived.Test.YtdipkbobalnilaaGreatDoorWitB
set_option maxRecDepth 100000
namespace Go.Proofs.YtdipkbobalnilaaGreatDoor
open Go.Proofs.Tryz
open Go Go.ChangeShapes Go.WideShapes Go.ChangeAt Go.RowKit
theorem ej:f5.params=#[28,9,29]:=by kernel_rfl
theorem pr:f5.resultTypes=#[4]:=by kernel_rfl
theorem xq(a:Os){H:Type}(enc:TypeId×Ea->H):∃(w:Ca) (tape:Tape) (i:Input),w.os=a/\(w.forCall tape i).Shaped Tryz.checked.prog/\i.vars=[]/\Input.okWide Tryz.checked.prog (w.forCall tape i) .any w.heap.size 5 i/\
  ((Rows.judgeRegionsSpec.pre enc Tryz.checked.prog f5 [] false (w.forCall tape i).memory i.args/\laidMetH prog iA (w.forCall tape i).memory)/\sizedMet enc Tryz.checked.prog f5 (OpenSpec.ofChange Rows.judgeRegionsSpec) false (w.forCall tape i).memory i.args)/\({}:Assume).holds Tryz.checked.prog (lone (Frame.enter Tryz.checked.prog 5 i.args .normal) [] (w.forCall tape i)):=
 ChangeSpec.witness_shaped (enc:=enc) (C:=Tryz.checked) (os:=a) (X:=λw _=>laidMetH prog iA w) false (World.doorLaid prog 2000 a) #[afl,.string ⟨#[]⟩,Ua] 8 rfl (World.shaped_of_RefB Ha Ha) Ha Ha Ha (RS a _)
theorem Ox:Rows.judgeRegionsRow.wf (OpenSpec.ofChange Rows.judgeRegionsSpec)=true:=by kernel_rfl
theorem Px:f5.params.all (prog.readableRec ·)=true:=by kernel_rfl
theorem Qx:namedTie prog Rows.judgeRegionsRow.named Rows.judgeRegionsSpec.vars=true:=by kernel_rfl
theorem Rx:(Rows.judgeRegionsRow.stops==[])=true:=by kernel_rfl
theorem Sx:(Rows.judgeRegionsRow.knobs==[])=true:=by kernel_rfl
theorem Tx:(Rows.judgeRegionsRow.inPlace==prog.inPlace 5)=true:=by kernel_rfl
theorem Zv:(Rows.judgeRegionsRow.unfollowed==prog.unfollowed 5)=true:=by kernel_rfl
theorem aw:(Rows.judgeRegionsRow.recurses==prog.recurses 5)=true:=by kernel_rfl
theorem cw:(Rows.judgeRegionsRow.named==prog.varsNamed 5)=true:=by kernel_rfl
theorem dw:(Rows.judgeRegionsRow.maps==(f5.params.toList++Rows.judgeRegionsSpec.plain.varTypes prog).any (prog.mapsRec ·))=true:=by kernel_rfl
theorem ew:(Rows.judgeRegionsRow.ifaces==(f5.params.toList++Rows.judgeRegionsSpec.plain.varTypes prog).any (prog.ifacesRec ·))=true:=by kernel_rfl
theorem gw:(Rows.judgeRegionsRow.mapsOut==prog.mapsAmong f5.resultTypes.toList)=true:=by kernel_rfl
theorem iw:(Rows.judgeRegionsRow.loops==(f5.params.toList++Rows.judgeRegionsSpec.plain.varTypes prog).any (prog.loopsFrom ·))=true:=by kernel_rfl
theorem jw:(Rows.judgeRegionsRow.wideKeys==(f5.params.toList++Rows.judgeRegionsSpec.plain.varTypes prog++f5.resultTypes.toList).any (prog.wideKeysFrom ·))=true:=by kernel_rfl
theorem kw:Rows.judgeRegionsSpec.vars.all (prog.varReadable ·)=true:=by kernel_rfl
theorem mw:f5.resultTypes.all (λt=>prog.readableRec t&& decide (t<prog.types.size))=true:=by kernel_rfl
theorem nw:(Rows.judgeRegionsRow.ifacesOut==f5.resultTypes.toList.any (prog.ifacesRec ·))=true:=by kernel_rfl
theorem ow:(Rows.judgeRegionsRow.loopsOut==f5.resultTypes.toList.any (prog.loopsFrom ·))=true:=by kernel_rfl
theorem pw:(Rows.judgeRegionsRow.plainKeys==prog.plainKeys)=true:=by kernel_rfl
theorem qw:Rows.judgeRegionsRow.shortTexts.isNone=true:=by kernel_rfl
theorem sw:(Rows.judgeRegionsRow.lifted==prog.liftsFinal)=true:=by kernel_rfl
theorem tw:(prog.make==some Rows.judgeRegionsRow.make)=true:=by kernel_rfl
theorem uw:(Rows.judgeRegionsRow.kinds==(if Rows.judgeRegionsRow.domain.isEmpty then[]else f5.params.toList.map λt=>match prog.underlying t with|some (.int k)=>some k|_=>none))=true:=by kernel_rfl
theorem vw:(Rows.judgeRegionsRow.pinned==Rows.judgeRegionsRow.pinnedBy)=true:=by kernel_rfl
theorem xw:(Rows.judgeRegionsRow.veiled==(f5.params.toList++Rows.judgeRegionsSpec.plain.varTypes prog++f5.resultTypes.toList).any (prog.veiledRec ·))=true:=by kernel_rfl
theorem yw:Rows.judgeRegionsRow.veiledFits prog f5.params.toList (f5.params.toList++Rows.judgeRegionsSpec.plain.varTypes prog++f5.resultTypes.toList)=true:=by kernel_rfl
theorem Ns:joinedFacts prog 5 f5 Rows.judgeRegionsSpec Rows.judgeRegionsRow=true:=
 fj (fj (fj (fj (fj (fj (fj (fj (fj (fj (fj (fj (fj (fj (fj (fj (fj (fj (fj (fj (fj (fj (fj (fj (fj (fj (fj (fj (fj (fj (fj (Ox) laidOut) Y0) Px) Qx) Rx) Z0) Sx) j1) Tx) Zv) aw) cw) dw) ew) gw) iw) jw) kw) mw) nw) ow) pw) qw) A1) B1) sw) tw) uw) vw) xw) yw
theorem ep:prog.funcNamed Rows.judgeRegionsRow.func=some 5:=by kernel_rfl
theorem wu:f5.isInstance prog Rows.judgeRegionsRow.origin Rows.judgeRegionsRow.targs:=Uf Ha
theorem xu:f5.isWrapper prog Rows.judgeRegionsRow.wrapper Rows.judgeRegionsRow.mainSum:=by
 unfold Func.isWrapper;first|(rw[Ga (by decide+kernel)];kernel_rfl)|(rw[if_neg (by decide+kernel)];exact⟨rfl,rfl⟩)
theorem yu:Rows.judgeRegionsRow.wfByText (OpenSpec.ofChange Rows.judgeRegionsSpec)=true:=by kernel_rfl
theorem zu:Tryz.pinned.checked.prog.mainIs=some (true, "8e34ab3d0cab2b8912880b52121bf8216cc80c8880f53924f58f18eafe663808".toList):=by kernel_rfl
theorem Au:false=Rows.judgeRegionsRow.goesBy Tryz.pinned.checked.prog:=by kernel_rfl
theorem Qs:([28,9,29].all λu=> !prog.wantsStandIn u)=true:=by kernel_rfl
theorem Ps:∀f a,prog.funcNamed Rows.judgeRegionsRow.func=some f->prog.funcs[f]? =some a->true=prog.looks []/\∀(j:Nat) t,a.params[j]? =some t->prog.wantsStandIn t=false:=by
 intro f a d b;obtain rfl:f=5:=(Qe (ep.symm.trans d)).symm;obtain rfl:a=f5:=(Qe (func5.symm.trans b)).symm;refine⟨C1,λj t c=>?_⟩;rw[ej]at c;have e:t∈[28,9,29]:=by simpa using Array.mem_of_getElem? c
 simpa using List.all_eq_true.1 Qs t e
end Go.Proofs.YtdipkbobalnilaaGreatDoor
