/- DiagramMatchesReference: closed facts of its row, its shown start. No conditions. -/
import Derived.Test.YtejbgoigkefnfaaGreatDoorAl
import Derived.Test.YtejbgoigkefnfaaGreatDoorDgWD
set_option maxRecDepth 100000
namespace Go.Proofs.YtejbgoigkefnfaaGreatDoor
open Go Go.ChangeShapes Go.WideShapes Go.ChangeAt Go.RowKit
theorem Ng :Tryz.f5.params=#[24,27,34,34,29]:=by kernel_rfl
theorem yl :Tryz.f5.resultTypes=#[4]:=by kernel_rfl
theorem Pk (os:Os){H:Type}(enc:TypeId×Value->H):∃(w:World) (tape:Tape) (i:Input),w.os=os/\ (w.forCall tape i).Shaped Tryz.checked.prog/\ i.vars=[]/\ Input.okWide Tryz.checked.prog (w.forCall tape i) .any w.heap.size 5 i/\
  ((Rows.diagramMatchesReferenceSpec.pre enc Tryz.checked.prog Tryz.f5 [] false (w.forCall tape i).memory i.args/\ laidMetH Tryz.prog Dz (w.forCall tape i).memory)/\ sizedMet enc Tryz.checked.prog Tryz.f5 (OpenSpec.ofChange Rows.diagramMatchesReferenceSpec) false (w.forCall tape i).memory i.args)/\ ({}:Assume).holds Tryz.checked.prog (lone (Frame.enter Tryz.checked.prog 5 i.args .normal) [] (w.forCall tape i)):=
 ChangeSpec.witness_shaped (enc:=enc) (C:=Tryz.checked) (os:=os) (X:=fun w _=>laidMetH Tryz.prog Dz w) false (World.doorLaid Tryz.prog 2000 os) #[.agg #[.int .i64 0,.string ⟨#[]⟩,.int .i64 0,.int .i64 0,.slice none 0 0],.agg #[.slice none 0 0],.agg #[.slice none 0 0],.agg #[.slice none 0 0],.slice none 0 0] 8 rfl (World.shaped_of_RefB Ca Ca) Ca Ca Ca (LP os _)
theorem sn :Rows.diagramMatchesReferenceRow.wf (OpenSpec.ofChange Rows.diagramMatchesReferenceSpec)=true:=by kernel_rfl
theorem xn :Tryz.f5.params.all (Tryz.prog.readableRec ·)=true:=by kernel_rfl
theorem yn :namedTie Tryz.prog Rows.diagramMatchesReferenceRow.named Rows.diagramMatchesReferenceSpec.vars=true:=by kernel_rfl
theorem zn :(Rows.diagramMatchesReferenceRow.stops==[])=true:=by kernel_rfl
theorem Bn :(Rows.diagramMatchesReferenceRow.knobs==[])=true:=by kernel_rfl
theorem Cn :(Rows.diagramMatchesReferenceRow.inPlace==Tryz.prog.inPlace 5)=true:=by kernel_rfl
theorem ym :(Rows.diagramMatchesReferenceRow.unfollowed==Tryz.prog.unfollowed 5)=true:=by kernel_rfl
theorem zm :(Rows.diagramMatchesReferenceRow.recurses==Tryz.prog.recurses 5)=true:=by kernel_rfl
theorem Am :(Rows.diagramMatchesReferenceRow.named==Tryz.prog.varsNamed 5)=true:=by kernel_rfl
theorem Bm :(Rows.diagramMatchesReferenceRow.maps==(Tryz.f5.params.toList++Rows.diagramMatchesReferenceSpec.plain.varTypes Tryz.prog).any (Tryz.prog.mapsRec ·))=true:=by kernel_rfl
theorem Cm :(Rows.diagramMatchesReferenceRow.ifaces==(Tryz.f5.params.toList++Rows.diagramMatchesReferenceSpec.plain.varTypes Tryz.prog).any (Tryz.prog.ifacesRec ·))=true:=by kernel_rfl
theorem Dm :(Rows.diagramMatchesReferenceRow.mapsOut==Tryz.prog.mapsAmong Tryz.f5.resultTypes.toList)=true:=by kernel_rfl
theorem Em :(Rows.diagramMatchesReferenceRow.loops==(Tryz.f5.params.toList++Rows.diagramMatchesReferenceSpec.plain.varTypes Tryz.prog).any (Tryz.prog.loopsFrom ·))=true:=by kernel_rfl
theorem Fm :(Rows.diagramMatchesReferenceRow.wideKeys==(Tryz.f5.params.toList++Rows.diagramMatchesReferenceSpec.plain.varTypes Tryz.prog++Tryz.f5.resultTypes.toList).any (Tryz.prog.wideKeysFrom ·))=true:=by kernel_rfl
theorem Gm :Rows.diagramMatchesReferenceSpec.vars.all (Tryz.prog.varReadable ·)=true:=by kernel_rfl
theorem Hm :Tryz.f5.resultTypes.all (fun t=>Tryz.prog.readableRec t&& decide (t<Tryz.prog.types.size))=true:=by kernel_rfl
theorem Im :(Rows.diagramMatchesReferenceRow.ifacesOut==Tryz.f5.resultTypes.toList.any (Tryz.prog.ifacesRec ·))=true:=by kernel_rfl
theorem Jm :(Rows.diagramMatchesReferenceRow.loopsOut==Tryz.f5.resultTypes.toList.any (Tryz.prog.loopsFrom ·))=true:=by kernel_rfl
theorem Km :(Rows.diagramMatchesReferenceRow.plainKeys==Tryz.prog.plainKeys)=true:=by kernel_rfl
theorem Lm :Rows.diagramMatchesReferenceRow.shortTexts.isNone=true:=by kernel_rfl
theorem Mm :(Rows.diagramMatchesReferenceRow.lifted==Tryz.prog.liftsFinal)=true:=by kernel_rfl
theorem Om :(Tryz.prog.make==some Rows.diagramMatchesReferenceRow.make)=true:=by kernel_rfl
theorem Pm :(Rows.diagramMatchesReferenceRow.kinds==(if Rows.diagramMatchesReferenceRow.domain.isEmpty then[]else Tryz.f5.params.toList.map fun t=>match Tryz.prog.underlying t with | some (.int k)=>some k | _=>none))=true:=by kernel_rfl
theorem Qm :(Rows.diagramMatchesReferenceRow.pinned==Rows.diagramMatchesReferenceRow.pinnedBy)=true:=by kernel_rfl
theorem Rm :(Rows.diagramMatchesReferenceRow.veiled==(Tryz.f5.params.toList++Rows.diagramMatchesReferenceSpec.plain.varTypes Tryz.prog++Tryz.f5.resultTypes.toList).any (Tryz.prog.veiledRec ·))=true:=by kernel_rfl
theorem Sm :Rows.diagramMatchesReferenceRow.veiledFits Tryz.prog Tryz.f5.params.toList (Tryz.f5.params.toList++Rows.diagramMatchesReferenceSpec.plain.varTypes Tryz.prog++Tryz.f5.resultTypes.toList)=true:=by kernel_rfl
theorem Ql :joinedFacts Tryz.prog 5 Tryz.f5 Rows.diagramMatchesReferenceSpec Rows.diagramMatchesReferenceRow=true:=
 Qj (Qj (Qj (Qj (Qj (Qj (Qj (Qj (Qj (Qj (Qj (Qj (Qj (Qj (Qj (Qj (Qj (Qj (Qj (Qj (Qj (Qj (Qj (Qj (Qj (Qj (Qj (Qj (Qj (Qj (Qj (sn) laidOut) vX) xn) yn) zn) wX) Bn) xX) Cn) ym) zm) Am) Bm) Cm) Dm) Em) Fm) Gm) Hm) Im) Jm) Km) Lm) yX) zX) Mm) Om) Pm) Qm) Rm) Sm
theorem kj :Tryz.prog.funcNamed Rows.diagramMatchesReferenceRow.func=some 5:=by kernel_rfl
theorem gm :Tryz.f5.isInstance Tryz.prog Rows.diagramMatchesReferenceRow.origin Rows.diagramMatchesReferenceRow.targs:=Fc Ca
theorem im :Tryz.f5.isWrapper Tryz.prog Rows.diagramMatchesReferenceRow.wrapper Rows.diagramMatchesReferenceRow.mainSum:=by
 unfold Func.isWrapper;first | (rw[if_pos (by decide+kernel)];kernel_rfl) | (rw[Aa (by decide+kernel)];exact⟨rfl,rfl⟩)
theorem jm :Rows.diagramMatchesReferenceRow.wfByText (OpenSpec.ofChange Rows.diagramMatchesReferenceSpec)=true:=by kernel_rfl
theorem km :Tryz.pinned.checked.prog.mainIs=some (true, "dbfb770137cd3a53e4568a461c6b3edeab2001f82372e9ca265d6da6bd306e12".toList):=by kernel_rfl
theorem lm :false=Rows.diagramMatchesReferenceRow.goesBy Tryz.pinned.checked.prog:=by kernel_rfl
theorem Sl :([24,27,34,34,29].all fun u=> !Tryz.prog.wantsStandIn u)=true:=by kernel_rfl
theorem Rl :∀f fn,Tryz.prog.funcNamed Rows.diagramMatchesReferenceRow.func=some f->Tryz.prog.funcs[f]? =some fn->true=Tryz.prog.looks []/\ ∀(j:Nat) t,fn.params[j]? =some t->Tryz.prog.wantsStandIn t=false:=by
 intro f fn hf j4;obtain rfl:f=5:=(Zg (kj.symm.trans hf)).symm;obtain rfl:fn=Tryz.f5:=(Zg (Tryz.func5.symm.trans j4)).symm;refine⟨AX,fun j t ht=>?_⟩;rw[Ng]at ht;have hm:t∈[24,27,34,34,29]:=by simpa using Array.mem_of_getElem? ht
 simpa using List.all_eq_true.1 Sl t hm
end Go.Proofs.YtejbgoigkefnfaaGreatDoor
