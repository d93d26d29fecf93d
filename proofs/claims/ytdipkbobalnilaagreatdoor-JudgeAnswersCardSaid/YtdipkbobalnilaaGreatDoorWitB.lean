/- The library's table of powers of ten lies in the start world of a row. No conditions. -/
import Derived.Test.YtdipkbobalnilaaGreatDoorAl
import Derived.Test.YtdipkbobalnilaaGreatDoorWitA
import Derived.Test.YtdipkbobalnilaaGreatDoorRkPA
set_option maxRecDepth 100000
namespace Go.Proofs.YtdipkbobalnilaaGreatDoor
open Go.Proofs.Tryz
open Go.RowKit Go.ChangeShapes Go.ChangeMaps
variable{j:Nat}
section
variable {H : Type} {enc : TypeId × Ea -> H} {W : Ca} {sp : Nat -> Bool} {hd : Bool}
theorem OS{r:Reach}{v:Ea}{d:DataW H}{A:List MemPlace}(hval:Value.okWide prog W r j 28 v)(h:DataW.Trod enc prog W 0 sp hd 28 v d A):∃f e u,Gj W W.heap.size f e u v/\∀p∈e,Wh p.value:=by
 obtain⟨fuel,y⟩:=h;obtain⟨l,rfl⟩:=okWide_struct Tryz.underlying28 hval;obtain⟨x,n,_,_,hlen,a,s⟩:=DataW.trod_struct Tryz.underlying28 y;rw[c52]at hlen;have a:x.length=3:=a;obtain⟨w,B,C,rfl⟩:=agC hlen
 {skip;have c:=s 0 _ rfl;have g:=s 1 _ rfl;have i:=s 2 _ rfl;simp only[Gb,zb]at c;simp only[Gb,zb,Jb]at g;simp only[Gb,zb,Jb]at i;rw[c27]at c;rw[c50]at g;rw[c28]at i;rw[Xa ja]at c;replace c:DataW.trod enc prog W 0 sp hd n 24 [w]=some x[0]:=c;obtain⟨D,E,_,_,_,b,z⟩:=DataW.trod_struct Tryz.underlying24 c;have b:D.length=1:=b;have k:=z 0 _ rfl;simp only[Gb,zb]at k;rw[c25]at k;obtain⟨f,m⟩:=PW k (Gf b Ba);obtain⟨e,o,q⟩:=yT g (Gf a Ba);obtain⟨u,t⟩:=Lu Tryz.underlying26 i (Gf a Ba);exact⟨f,e,u,⟨w,B,C,rfl,m,o,t⟩,q⟩}
end
open Go Go.RowKit
theorem oW{W:Ca}(h:laidMetH prog iA W):Jh W.heap.size W:=by
 have a:=h.filter (λx=>x.1== "internal/strconv.uint64pow10")
 have e:iA.filter (λx=>x.1== "internal/strconv.uint64pow10")=[("internal/strconv.uint64pow10",Lib.tabData .u64 Lib.pow10Tab)]:=by kernel_rfl
 rw[e,MakeChecks.laidMetH_plain _ _ _ Ha]at a;exact Lib.tabBelow_of_tabIs (Lib.tabIs_of_head (g:=0) (t:=271) (e:=233) (n:=20) Ha Ha Ha Ha Ha Ha a)
end Go.Proofs.YtdipkbobalnilaaGreatDoor
