/- DiagramMatchesReference: the statement: its row from the walk, the card from the row. No conditions. -/
import Derived.Test.YtejbgoigkefnfaaGreatDoorAl
import Derived.Test.YtejbgoigkefnfaaGreatDoorDiagramMatchesReferenceW
import Derived.Test.YtejbgoigkefnfaaGreatDoorDiagramMatchesReferenceF
set_option maxRecDepth 100000
namespace Go.Proofs.YtejbgoigkefnfaaGreatDoor
open Go Go.ChangeShapes Go.WideShapes Go.ChangeAt Go.RowKit
theorem vl (os:Os)(started:os.Started)(H:Type)(enc:TypeId×Value->H):
  ReturnsInHanded {} Tryz.checked os 5 .any (fun w args=>(Rows.diagramMatchesReferenceSpec.pre enc Tryz.prog Tryz.f5 [] false w args/\ laidMetH Tryz.prog Dz w)/\ sizedMet enc Tryz.prog Tryz.f5 (OpenSpec.ofChange Rows.diagramMatchesReferenceSpec) false w args)
   (Rows.diagramMatchesReferenceSpec.post enc Tryz.prog Tryz.f5 false true false false):=by
 refine returnsInHanded_of_change_and (C:=Tryz.checked) (X:=fun w _=>laidMetH Tryz.prog Dz w) (fun _ _ _ hh h=>h.of_heap hh) own started Ca Tryz.func5
  (Pk os enc) ?_
 intro W base args ds gs before J5 hW _ _ hL _;have hval:∀(j:Nat) t v,Tryz.f5.params[j]? =some t->args[j]? =some v->Value.okWide Tryz.prog W .any base t v:=J5;have JO:=hW;obtain⟨p,q,hA0,hV0,rfl,vN,hnd⟩:=hW;have hA:DataW.TrodAll enc Tryz.prog W 0 (fun _=>true) true Tryz.f5.params.toList args.toList ds p:=hA0;rw[Ng]at hA hval;obtain⟨v0,v1,v2,v3,v4,d0,d1,d2,d3,d4,p0,p1,p2,p3,p4,rfl,rfl,rfl,h0,h1,h2,h3,h4⟩:=lD hA;obtain⟨rfl,rfl⟩:=trodVars_none hV0;have hlt:∀x∈p0++p1++p2++p3++p4,x.block<W.heap.size:=fun x hx=>by simpa using JO.lt x (by simpa using hx)
 obtain⟨fo0,a0⟩:=uX (hval 0 _ v0 rfl rfl) h0;obtain⟨dd1,a1⟩:=xT (hval 1 _ v1 rfl rfl) h1;obtain⟨dg2,a2,n2⟩:=EP (hval 2 _ v2 rfl rfl) h2;obtain⟨dg3,a3,n3⟩:=EP (hval 3 _ v3 rfl rfl) h3;obtain⟨l4,a4⟩:=JP (hval 4 _ v4 rfl rfl) h4;refine(xm W a0 a1 a2 n2 a3 n3 a4 (uT hL)).mono ?_;rintro e W' ⟨rfl,hb⟩;refine⟨_,rfl,_,_,_,[],(p0++(p1++(p2++(p3++p4)))),[],JO,?_,?_,?_,hb.frame _,fun h=>by cases h⟩
 {rw[yl];exact trodAll_mk1 (shut_bool Tryz.underlying4 _)}
 {rw[Ng];exact bG (Below.trod laidOut Ca (Fc Ca) h0 hb (fun x hx=>hlt x (by simp[hx]))) (Below.trod laidOut Ca (Fc Ca) h1 hb (fun x hx=>hlt x (by simp[hx]))) (Below.trod laidOut Ca (Fc Ca) h2 hb (fun x hx=>hlt x (by simp[hx]))) (Below.trod laidOut Ca (Fc Ca) h3 hb (fun x hx=>hlt x (by simp[hx]))) (Below.trod laidOut Ca (Fc Ca) h4 hb (fun x hx=>hlt x (by simp[hx])))}
 {rfl}
theorem fm :Rows.DiagramMatchesReferenceSaid:=
 OpenClaim.holds_of_wide 5 Tryz.f5 rfl rfl rfl rfl rfl rfl rfl ⟨rfl,rfl,rfl,rfl,rfl⟩ rfl rfl rfl rfl rfl kj Tryz.func5 Ql
  gm im (fun os started H enc _=>vl os started H enc)
theorem diagramMatchesReference_holds :Rows.DiagramMatchesReferenceCardSaid:=
 Claim7.holds_tied_plain_at .later [] [.data,.data,.data,.sentinel,.sentinel] true _ true
  fm (fun _ h=>by cases h) jm (fun _ h=>by cases h) diagramMatchesReference_row_tie rfl ⟨rfl,rfl⟩ km rfl Rl lm
#print axioms diagramMatchesReference_holds
end Go.Proofs.YtejbgoigkefnfaaGreatDoor
