/- RegimeDays: the statement: its row from the walk, the card from the row. No conditions. -/
import Derived.Test.YtihniipjfdenbaaGreatDoorRegimeDaysW
import Derived.Test.YtihniipjfdenbaaGreatDoorRegimeDaysF
set_option maxRecDepth 100000
namespace Go.Proofs.YtihniipjfdenbaaGreatDoor
open Go Go.ChangeShapes Go.WideShapes Go.ChangeAt Go.RowKit
theorem regimeDays_lifted (os:Os)(started:os.Started)(H:Type)(enc:TypeId×Value->H):
  ReturnsInHanded {} Tryz.checked os 6 .any (fun w args=>(Rows.regimeDaysSpec.pre enc Tryz.prog Tryz.f6 [] false w args/\ laidMetH Tryz.prog laid5 w)/\ sizedMet enc Tryz.prog Tryz.f6 (OpenSpec.ofChange Rows.regimeDaysSpec) false w args)
   (Rows.regimeDaysSpec.post enc Tryz.prog Tryz.f6 false true false false):=by
 refine returnsInHanded_of_change_and (C:=Tryz.checked) (X:=fun w _=>laidMetH Tryz.prog laid5 w) (fun _ _ _ hh h=>h.of_heap hh) own started (by kernel_rfl) Tryz.func6
  (regimeDays_witness os enc) ?_
 intro W base args ds gs before hval0 hW _ _ hL _;have hval:∀(j:Nat) t v,Tryz.f6.params[j]? =some t->args[j]? =some v->Value.okWide Tryz.prog W .any base t v:=hval0;have hW':=hW;obtain⟨p,q,hA0,hV0,rfl,hfz,hnd⟩:=hW;have hA:DataW.TrodAll enc Tryz.prog W 0 (fun _=>true) true Tryz.f6.params.toList args.toList ds p:=hA0;rw[paramsRegimeDays]at hA hval;obtain⟨v0,v1,v2,v3,v4,v5,v6,d0,d1,d2,d3,d4,d5,d6,p0,p1,p2,p3,p4,p5,p6,rfl,rfl,rfl,h0,h1,h2,h3,h4,h5,h6⟩:=trodAll_seven hA;obtain⟨rfl,rfl⟩:=trodVars_none hV0;have hlt:∀x∈p0++p1++p2++p3++p4++p5++p6,x.block<W.heap.size:=fun x hx=>by simpa using hW'.lt x (by simpa using hx)
 obtain⟨ll0,a0⟩:=arg_chs (hval 0 _ v0 rfl rfl) h0;obtain⟨dd1,a1⟩:=arg_dom (hval 1 _ v1 rfl rfl) h1;obtain⟨s2,e2,a2⟩:=arg_string (hval 2 _ v2 rfl rfl) h2;subst e2;obtain⟨n3,e3,a3⟩:=arg_int (hval 3 _ v3 rfl rfl) h3;subst e3;obtain⟨l4,a4⟩:=arg_case (hval 4 _ v4 rfl rfl) h4;obtain⟨n5,e5,a5⟩:=arg_int (hval 5 _ v5 rfl rfl) h5;subst e5;obtain⟨n6,e6,a6⟩:=arg_int (hval 6 _ v6 rfl rfl) h6;subst e6;refine(regimeDays_any W a0 a1 a2 a3 a4 a5 a6 (tab_met hL)).mono ?_;rintro e W' ⟨rfl,hb⟩;refine⟨_,rfl,_,_,_,[],(p0++(p1++(p2++(p3++(p4++(p5++p6)))))),[],hW',?_,?_,?_,hb.frame _,fun h=>by cases h⟩
 ·rw[resultsRegimeDays];exact trodAll_mk1 (shut_bool Tryz.underlying4 _)
 ·rw[paramsRegimeDays];exact trodAll_mk7 (Below.trod laidOut (by kernel_rfl) (of_decide_eq_true (by kernel_rfl)) h0 hb (fun x hx=>hlt x (by simp[hx]))) (Below.trod laidOut (by kernel_rfl) (of_decide_eq_true (by kernel_rfl)) h1 hb (fun x hx=>hlt x (by simp[hx]))) (Below.trod laidOut (by kernel_rfl) (of_decide_eq_true (by kernel_rfl)) h2 hb (fun x hx=>hlt x (by simp[hx]))) (Below.trod laidOut (by kernel_rfl) (of_decide_eq_true (by kernel_rfl)) h3 hb (fun x hx=>hlt x (by simp[hx]))) (Below.trod laidOut (by kernel_rfl) (of_decide_eq_true (by kernel_rfl)) h4 hb (fun x hx=>hlt x (by simp[hx]))) (Below.trod laidOut (by kernel_rfl) (of_decide_eq_true (by kernel_rfl)) h5 hb (fun x hx=>hlt x (by simp[hx]))) (Below.trod laidOut (by kernel_rfl) (of_decide_eq_true (by kernel_rfl)) h6 hb (fun x hx=>hlt x (by simp[hx])))
 ·rfl
theorem regimeDays_said :Rows.RegimeDaysSaid:=
 OpenClaim.holds_of_wide 6 Tryz.f6 rfl rfl rfl rfl rfl rfl rfl ⟨rfl,rfl,rfl,rfl,rfl⟩ rfl rfl rfl rfl rfl regimeDays_fn Tryz.func6 regimeDays_facts
  regimeDays_inst regimeDays_wrap (fun os started H enc _=>regimeDays_lifted os started H enc)
theorem regimeDays_holds :Rows.RegimeDaysCardSaid:=
 Claim7.holds_tied_plain_at .later [] [.data,.data,.data,.sentinel,.sentinel] true _ true
  regimeDays_said (fun _ h=>by cases h) regimeDays_text (fun _ h=>by cases h) regimeDays_row_tie rfl ⟨rfl,rfl⟩ regimeDays_main rfl regimeDays_looks regimeDays_goes
#print axioms regimeDays_holds
end Go.Proofs.YtihniipjfdenbaaGreatDoor
