/- RegimeOthers: the statement: its row from the walk, the card from the row. No conditions. -/
import Derived.Test.YtihniipjfdenbaaGreatDoorRegimeOthersW
import Derived.Test.YtihniipjfdenbaaGreatDoorRegimeOthersF
set_option maxRecDepth 100000
namespace Go.Proofs.YtihniipjfdenbaaGreatDoor
open Go Go.ChangeShapes Go.WideShapes Go.ChangeAt Go.RowKit
theorem regimeOthers_lifted (os:Os)(started:os.Started)(H:Type)(enc:TypeId×Value->H):
  ReturnsInHanded {} Tryz.checked os 7 .any (fun w args=>(Rows.regimeOthersSpec.pre enc Tryz.prog Tryz.f7 [] false w args/\ laidMetH Tryz.prog laid5 w)/\ sizedMet enc Tryz.prog Tryz.f7 (OpenSpec.ofChange Rows.regimeOthersSpec) false w args)
   (Rows.regimeOthersSpec.post enc Tryz.prog Tryz.f7 false true false false):=by
 refine returnsInHanded_of_change_and (C:=Tryz.checked) (X:=fun w _=>laidMetH Tryz.prog laid5 w) (fun _ _ _ hh h=>h.of_heap hh) own started (by kernel_rfl) Tryz.func7
  (regimeOthers_witness os enc) ?_
 intro W base args ds gs before hval0 hW _ _ hL _;have hval:∀(j:Nat) t v,Tryz.f7.params[j]? =some t->args[j]? =some v->Value.okWide Tryz.prog W .any base t v:=hval0;have hW':=hW;obtain⟨p,q,hA0,hV0,rfl,hfz,hnd⟩:=hW;have hA:DataW.TrodAll enc Tryz.prog W 0 (fun _=>true) true Tryz.f7.params.toList args.toList ds p:=hA0;rw[paramsRegimeOthers]at hA hval;obtain⟨v0,v1,v2,v3,v4,v5,d0,d1,d2,d3,d4,d5,p0,p1,p2,p3,p4,p5,rfl,rfl,rfl,h0,h1,h2,h3,h4,h5⟩:=trodAll_six hA;obtain⟨rfl,rfl⟩:=trodVars_none hV0;have hlt:∀x∈p0++p1++p2++p3++p4++p5,x.block<W.heap.size:=fun x hx=>by simpa using hW'.lt x (by simpa using hx)
 obtain⟨ll0,a0⟩:=arg_chs (hval 0 _ v0 rfl rfl) h0;obtain⟨dd1,a1⟩:=arg_dom (hval 1 _ v1 rfl rfl) h1;obtain⟨s2,e2,a2⟩:=arg_string (hval 2 _ v2 rfl rfl) h2;subst e2;obtain⟨n3,e3,a3⟩:=arg_int (hval 3 _ v3 rfl rfl) h3;subst e3;obtain⟨l4,a4⟩:=arg_case (hval 4 _ v4 rfl rfl) h4;obtain⟨n5,e5,a5⟩:=arg_int (hval 5 _ v5 rfl rfl) h5;subst e5;refine(regimeOthers_any W a0 a1 a2 a3 a4 a5 (tab_met hL)).mono ?_;rintro e W' ⟨rfl,hb⟩;refine⟨_,rfl,_,_,_,[],(p0++(p1++(p2++(p3++(p4++p5))))),[],hW',?_,?_,?_,hb.frame _,fun h=>by cases h⟩
 {rw[resultsRegimeOthers];exact trodAll_mk1 (shut_bool Tryz.underlying4 _)}
 {rw[paramsRegimeOthers];exact trodAll_mk6 (Below.trod laidOut (by kernel_rfl) (of_decide_eq_true (by kernel_rfl)) h0 hb (fun x hx=>hlt x (by simp[hx]))) (Below.trod laidOut (by kernel_rfl) (of_decide_eq_true (by kernel_rfl)) h1 hb (fun x hx=>hlt x (by simp[hx]))) (Below.trod laidOut (by kernel_rfl) (of_decide_eq_true (by kernel_rfl)) h2 hb (fun x hx=>hlt x (by simp[hx]))) (Below.trod laidOut (by kernel_rfl) (of_decide_eq_true (by kernel_rfl)) h3 hb (fun x hx=>hlt x (by simp[hx]))) (Below.trod laidOut (by kernel_rfl) (of_decide_eq_true (by kernel_rfl)) h4 hb (fun x hx=>hlt x (by simp[hx]))) (Below.trod laidOut (by kernel_rfl) (of_decide_eq_true (by kernel_rfl)) h5 hb (fun x hx=>hlt x (by simp[hx])))}
 {rfl}
theorem regimeOthers_said :Rows.RegimeOthersSaid:=
 OpenClaim.holds_of_wide 7 Tryz.f7 rfl rfl rfl rfl rfl rfl rfl ⟨rfl,rfl,rfl,rfl,rfl⟩ rfl rfl rfl rfl rfl regimeOthers_fn Tryz.func7 regimeOthers_facts
  regimeOthers_inst regimeOthers_wrap (fun os started H enc _=>regimeOthers_lifted os started H enc)
theorem regimeOthers_holds :Rows.RegimeOthersCardSaid:=
 Claim7.holds_tied_plain_at .later [] [.data,.data,.data,.sentinel,.sentinel] true _ true
  regimeOthers_said (fun _ h=>by cases h) regimeOthers_text (fun _ h=>by cases h) regimeOthers_row_tie rfl ⟨rfl,rfl⟩ regimeOthers_main rfl regimeOthers_looks regimeOthers_goes
#print axioms regimeOthers_holds
end Go.Proofs.YtihniipjfdenbaaGreatDoor
