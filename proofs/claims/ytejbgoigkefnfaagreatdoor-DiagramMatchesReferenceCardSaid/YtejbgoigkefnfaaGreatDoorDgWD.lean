/- The arguments opened: diagrams. No conditions. -/
import Derived.Test.YtejbgoigkefnfaaGreatDoorAl
import Derived.Test.YtejbgoigkefnfaaGreatDoorWitG
import Derived.Test.YtejbgoigkefnfaaGreatDoorDgVC
namespace Go.Proofs.YtejbgoigkefnfaaGreatDoor
open Go Go.RowKit
theorem uT {W:World}(h:laidMetH Tryz.prog Dz W):tm W.heap.size W:=by
 have h1:=h.filter (fun x=>x.1== "internal/strconv.uint64pow10")
 have e:Dz.filter (fun x=>x.1== "internal/strconv.uint64pow10")=[("internal/strconv.uint64pow10",Lib.tabData .u64 Lib.pow10Tab)]:=by kernel_rfl
 rw[e,MakeChecks.laidMetH_plain _ _ _ Ca]at h1;exact Lib.tabBelow_of_tabIs (Lib.tabIs_of_head (g:=0) (t:=188) (e:=167) (n:=20) Ca Ca Ca Ca Ca Ca h1)
open Go.RowKit Go.ChangeShapes Go.ChangeMaps
section
variable {H : Type} {enc : TypeId × Value -> H} {W : World} {sp : Nat -> Bool} {hd : Bool}
theorem cDg :Tryz.prog.cellsOf 34=1:=by kernel_rfl
theorem tX :Tryz.prog.cellsOf 32=1:=by kernel_rfl
theorem A5 :Tryz.prog.cellsOf 56=4:=by kernel_rfl
theorem B5 :Tryz.prog.cellsOf 4=1:=by kernel_rfl
theorem C5 :Tryz.prog.cellsOf 28=1:=by kernel_rfl
def D5 :pg Int:=fun w _ x b o=>w.cell? ⟨b,o,none⟩=some (.int .i64 x)/\ yj x
theorem DP {w:World}{B:Nat}{l:List Int}{v:Value}(h:Xa D5 1 w B l v):IntsIn w B l v/\ ∀x∈l,yj x:=by
 obtain⟨ao,cap,h1,h2,h3,h4⟩:=h;refine⟨⟨ao,cap,h1,h2,h3,fun hne=>?_⟩,fun x hx=>?_⟩
 {obtain⟨b,o,e1,e2,e3⟩:=h4 hne;exact⟨b,o,e1,e2,fun i hi=>(e3 i hi).1⟩}
 {obtain⟨j,hj,rfl⟩:=zb hx;obtain⟨b,o,e1,e2,e3⟩:=h4 (by intro e;rw[e]at hj;cases hj);exact(e3 j hj).2}
theorem dC {fuel:Nat}{v:Value}{y:Option (DataW H×List MemPlace)}(h:DataW.trod enc Tryz.prog W 0 sp hd fuel 28 [v]=y)(hy:y.isSome=true):∃l,IntsIn W W.heap.size l v/\ ∀x∈l,yj x:=by
 obtain⟨x,rfl⟩:=Option.isSome_iff_exists.1 hy
 obtain⟨l,hl⟩:∃l,Xa D5 1 W W.heap.size l v:=Ex Tryz.underlying28 c3 pa h (fun n cs y b o _ hy hb hr hl=>by
  obtain⟨s,rfl,_,hw⟩:=DataW.trod_int Tryz.underlying3 hy
  exact⟨s,hr 0 _ rfl,E5 hw⟩)
 exact⟨l,DP hl⟩
theorem open_bool {fuel:Nat}{v:Value}{y:Option (DataW H×List MemPlace)}(h:DataW.trod enc Tryz.prog W 0 sp hd fuel 4 [v]=y)(hy:y.isSome=true):∃b,v=.bool b:=by
 obtain⟨x,rfl⟩:=Option.isSome_iff_exists.1 hy;obtain⟨n,hc,_⟩:=DataW.trod_bool Tryz.underlying4 h;exact⟨n,by simpa using hc⟩
def aG (n:Dn):Prop:=yj n.fact/\ (∀x∈n.Ja,yj x)/\ ∀x∈n.kids,yj x
def F5 :pg Dn:=fun w B x b o=>yo w B x b o/\ aG x
theorem NI {fuel:Nat}{v:Value}{y:Option (DataW H×List MemPlace)}(h:DataW.trod enc Tryz.prog W 0 sp hd fuel 32 [v]=y)(hy:y.isSome=true):∃t,Xa F5 4 W W.heap.size t v:=by
 obtain⟨x,rfl⟩:=Option.isSome_iff_exists.1 hy;refine Ex Tryz.underlying32 A5 pa h (fun n cs y b o _ hy hb hr hl=>?_);obtain⟨xs,n,hf,_,_,pw,hx⟩:=DataW.trod_struct Tryz.underlying56 hy;have pw:xs.length=4:=pw;obtain⟨v0,v1,v2,v3,rfl⟩:=G5 hl;have f0:=hx 0 _ rfl;have f1:=hx 1 _ rfl;have f2:=hx 2 _ rfl;have f3:=hx 3 _ rfl;simp only[Dc,Ob]at f0;simp only[Dc,Ob,Ic]at f1;simp only[Dc,Ob,Ic]at f2;simp only[Dc,Ob,Ic]at f3;rw[c3]at f0;rw[C5]at f1 f2;rw[B5]at f3;obtain⟨fc,rfl,o0⟩:=xt f0 (Wi pw pa);obtain⟨cu,Jj,o1⟩:=dC f1 (Wi pw pa);obtain⟨ki,hki,o2⟩:=dC f2 (Wi pw pa);obtain⟨lf,rfl⟩:=open_bool f3 (Wi pw pa);exact⟨⟨fc,cu,ki,lf⟩,⟨v1,v2,hr 0 _ rfl,hr 1 _ rfl,hr 2 _ rfl,hr 3 _ rfl,Jj,hki⟩,o0,o1,o2⟩
set_option maxRecDepth 100000 in
theorem EP {r:Reach}{b0:Nat}{v:Value}{d:DataW H}{ps:List MemPlace}(hval:Value.okWide Tryz.prog W r b0 34 v)(h:DataW.Trod enc Tryz.prog W 0 sp hd 34 v d ps):∃t,oe W W.heap.size t v/\ ∀n∈t,aG n:=by
 obtain⟨fuel,hf⟩:=h;obtain⟨l,rfl⟩:=okWide_struct Tryz.underlying34 hval;obtain⟨ys,n',_,_,hlen,tK,hy⟩:=DataW.trod_struct Tryz.underlying34 hf;rw[cDg]at hlen;obtain⟨v0,l1,rfl,OH⟩:=Ez hlen;obtain rfl:=List.length_eq_zero_iff.1 OH;have tK:ys.length=1:=tK;have g0:=hy 0 _ rfl;simp only[Dc,Ob]at g0;rw[tX]at g0;obtain⟨t,ao,cap,h1,h2,h3,h4⟩:=NI g0 (Wi tK pa);refine⟨t,⟨v0,rfl,ao,cap,h1,h2,h3,fun hne=>?_⟩,fun n hn=>?_⟩
 {obtain⟨b,o,e1,e2,e3⟩:=h4 hne;exact⟨b,o,e1,e2,fun i hi=>(e3 i hi).1⟩}
 {obtain⟨j,hj,rfl⟩:=zb hn;obtain⟨b,o,e1,e2,e3⟩:=h4 (by intro e;rw[e]at hj;cases hj);exact(e3 j hj).2}
end
end Go.Proofs.YtejbgoigkefnfaaGreatDoor
