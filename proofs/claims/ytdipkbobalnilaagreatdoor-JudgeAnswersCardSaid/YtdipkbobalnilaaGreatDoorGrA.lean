/- The walk of norm.ask. A bound on the number of provisions and on the conditions' sizes. -/
import Derived.Test.YtdipkbobalnilaaGreatDoorAl
import Derived.Test.YtdipkbobalnilaaGreatDoorVisA
set_option maxRecDepth 100000
set_option maxHeartbeats 8000000
namespace Go.Proofs.YtdipkbobalnilaaGreatDoor
open Tryz
open Go.RowKit Tj
variable{j:Nat}{D:List Fa}{C:List Int}{A:Option Addr}{P:List Pv}
theorem Cz(f:Ca)(H g n:Nat)(rows:List (List Nat))(h:qV f H g n rows)(j:n<=1000)(d:∀k,∀x∈rows.getD k [],x<n):∀N,Dz f H n rows N
 | 0=>by
  intro i P s W p t c m _
  exfalso
  have l:(s.ng++[i]).Nodup:=by{rw[Ge];exact⟨c.inv.vn,Aa,λa q b r e=>by exact c.fresh (by grind)⟩}
  have o:=Ac l (l₂:=List.range n) (λx u=>by
   grind)
  grind
 | N+1=>bH f H g n rows h j d N (Cz f H g n rows h j d N)
structure LZ (w : Ca) (nb n : Nat) (rows : List (List Nat)) : Prop where
 ps:∃ap cp,w.cell? (Ja nb 1)=some (.slice ap n cp)
 len:rows.length=n
 lt:nb<w.heap.size
 by_:∃bb,bb<w.heap.size/\w.cell? (Ja nb 4)=some (.slice (Nb bb) n n)/\∀k,k<n->∃v,w.cell? (Ja bb k)=some v/\IntsIn w w.heap.size ((rows.getD k []).map λx:Nat=>(x:Int)) v
theorem Ez(w:Ca)(a:Nat):Da w.heap.size w ((((((((((w.alloc (.cells #[Ma a] 129)).alloc (.cells #[Ua] 132)).alloc (.cells #[Ua] 26)).alloc (.map #[] 0)).alloc (.map #[] 0)).alloc (.cells #[.map (some (w.heap.size+1+1+1))] 173)).alloc (.cells #[.map (some (w.heap.size+1+1+1+1))] 173)).alloc (.map #[] 0)).alloc (.cells #[.map (some (w.heap.size+1+1+1+1+1+1+1))] 61)).alloc (.cells #[.func (.func 98) #[] #[.pointer (some ⟨w.heap.size+1+1+1+1+1+1,0,none⟩),.pointer (some ⟨w.heap.size+1+1+1+1+1,0,none⟩),Ma (w.heap.size+1+1),Ma (w.heap.size+1+1+1+1+1+1+1+1),Ma w.heap.size,Ma (w.heap.size+1+1+1+1+1+1+1+1+1),Ma (w.heap.size+1)]] 174))/\((((((((((w.alloc (.cells #[Ma a] 129)).alloc (.cells #[Ua] 132)).alloc (.cells #[Ua] 26)).alloc (.map #[] 0)).alloc (.map #[] 0)).alloc (.cells #[.map (some (w.heap.size+1+1+1))] 173)).alloc (.cells #[.map (some (w.heap.size+1+1+1+1))] 173)).alloc (.map #[] 0)).alloc (.cells #[.map (some (w.heap.size+1+1+1+1+1+1+1))] 61)).alloc (.cells #[.func (.func 98) #[] #[.pointer (some ⟨w.heap.size+1+1+1+1+1+1,0,none⟩),.pointer (some ⟨w.heap.size+1+1+1+1+1,0,none⟩),Ma (w.heap.size+1+1),Ma (w.heap.size+1+1+1+1+1+1+1+1),Ma w.heap.size,Ma (w.heap.size+1+1+1+1+1+1+1+1+1),Ma (w.heap.size+1)]] 174)).heap.size=w.heap.size+10:=
 ⟨((((((((((za _ w).alloc ja _).alloc Aa _).alloc (by simp;omega) _).alloc (by simp;omega) _).alloc (by simp;omega) _).alloc (by simp;omega) _).alloc (by simp;omega) _).alloc (by simp;omega) _).alloc (by simp;omega) _).alloc (by simp;omega) _,Aa⟩
theorem W7(w:Ca)(a:Nat):qb ((((((((((w.alloc (.cells #[Ma a] 129)).alloc (.cells #[Ua] 132)).alloc (.cells #[Ua] 26)).alloc (.map #[] 0)).alloc (.map #[] 0)).alloc (.cells #[.map (some (w.heap.size+1+1+1))] 173)).alloc (.cells #[.map (some (w.heap.size+1+1+1+1))] 173)).alloc (.map #[] 0)).alloc (.cells #[.map (some (w.heap.size+1+1+1+1+1+1+1))] 61)).alloc (.cells #[.func (.func 98) #[] #[.pointer (some ⟨w.heap.size+1+1+1+1+1+1,0,none⟩),.pointer (some ⟨w.heap.size+1+1+1+1+1,0,none⟩),Ma (w.heap.size+1+1),Ma (w.heap.size+1+1+1+1+1+1+1+1),Ma w.heap.size,Ma (w.heap.size+1+1+1+1+1+1+1+1+1),Ma (w.heap.size+1)]] 174)) (w.heap.size+0) 129 #[Ma a]:=by
 have h:=qb.alloc (qb.alloc (qb.alloc (qb.alloc (qb.alloc (qb.alloc (qb.alloc (qb.alloc (qb.alloc (qb.new w 129 #[Ma a]) (.cells #[Ua] 132)) (.cells #[Ua] 26)) (.map #[] 0)) (.map #[] 0)) (.cells #[.map (some (w.heap.size+1+1+1))] 173)) (.cells #[.map (some (w.heap.size+1+1+1+1))] 173)) (.map #[] 0)) (.cells #[.map (some (w.heap.size+1+1+1+1+1+1+1))] 61)) (.cells #[.func (.func 98) #[] #[.pointer (some ⟨w.heap.size+1+1+1+1+1+1,0,none⟩),.pointer (some ⟨w.heap.size+1+1+1+1+1,0,none⟩),Ma (w.heap.size+1+1),Ma (w.heap.size+1+1+1+1+1+1+1+1),Ma w.heap.size,Ma (w.heap.size+1+1+1+1+1+1+1+1+1),Ma (w.heap.size+1)]] 174);exact h
theorem X7(w:Ca)(a:Nat):qb ((((((((((w.alloc (.cells #[Ma a] 129)).alloc (.cells #[Ua] 132)).alloc (.cells #[Ua] 26)).alloc (.map #[] 0)).alloc (.map #[] 0)).alloc (.cells #[.map (some (w.heap.size+1+1+1))] 173)).alloc (.cells #[.map (some (w.heap.size+1+1+1+1))] 173)).alloc (.map #[] 0)).alloc (.cells #[.map (some (w.heap.size+1+1+1+1+1+1+1))] 61)).alloc (.cells #[.func (.func 98) #[] #[.pointer (some ⟨w.heap.size+1+1+1+1+1+1,0,none⟩),.pointer (some ⟨w.heap.size+1+1+1+1+1,0,none⟩),Ma (w.heap.size+1+1),Ma (w.heap.size+1+1+1+1+1+1+1+1),Ma w.heap.size,Ma (w.heap.size+1+1+1+1+1+1+1+1+1),Ma (w.heap.size+1)]] 174)) (w.heap.size+1) 132 #[Ua]:=by
 have h:=qb.alloc (qb.alloc (qb.alloc (qb.alloc (qb.alloc (qb.alloc (qb.alloc (qb.alloc (qb.new (w.alloc (.cells #[Ma a] 129)) 132 #[Ua]) (.cells #[Ua] 26)) (.map #[] 0)) (.map #[] 0)) (.cells #[.map (some (w.heap.size+1+1+1))] 173)) (.cells #[.map (some (w.heap.size+1+1+1+1))] 173)) (.map #[] 0)) (.cells #[.map (some (w.heap.size+1+1+1+1+1+1+1))] 61)) (.cells #[.func (.func 98) #[] #[.pointer (some ⟨w.heap.size+1+1+1+1+1+1,0,none⟩),.pointer (some ⟨w.heap.size+1+1+1+1+1,0,none⟩),Ma (w.heap.size+1+1),Ma (w.heap.size+1+1+1+1+1+1+1+1),Ma w.heap.size,Ma (w.heap.size+1+1+1+1+1+1+1+1+1),Ma (w.heap.size+1)]] 174)
 simp_all
theorem Y7(w:Ca)(a:Nat):qb ((((((((((w.alloc (.cells #[Ma a] 129)).alloc (.cells #[Ua] 132)).alloc (.cells #[Ua] 26)).alloc (.map #[] 0)).alloc (.map #[] 0)).alloc (.cells #[.map (some (w.heap.size+1+1+1))] 173)).alloc (.cells #[.map (some (w.heap.size+1+1+1+1))] 173)).alloc (.map #[] 0)).alloc (.cells #[.map (some (w.heap.size+1+1+1+1+1+1+1))] 61)).alloc (.cells #[.func (.func 98) #[] #[.pointer (some ⟨w.heap.size+1+1+1+1+1+1,0,none⟩),.pointer (some ⟨w.heap.size+1+1+1+1+1,0,none⟩),Ma (w.heap.size+1+1),Ma (w.heap.size+1+1+1+1+1+1+1+1),Ma w.heap.size,Ma (w.heap.size+1+1+1+1+1+1+1+1+1),Ma (w.heap.size+1)]] 174)) (w.heap.size+2) 26 #[Ua]:=by
 have h:=qb.alloc (qb.alloc (qb.alloc (qb.alloc (qb.alloc (qb.alloc (qb.alloc (qb.new ((w.alloc (.cells #[Ma a] 129)).alloc (.cells #[Ua] 132)) 26 #[Ua]) (.map #[] 0)) (.map #[] 0)) (.cells #[.map (some (w.heap.size+1+1+1))] 173)) (.cells #[.map (some (w.heap.size+1+1+1+1))] 173)) (.map #[] 0)) (.cells #[.map (some (w.heap.size+1+1+1+1+1+1+1))] 61)) (.cells #[.func (.func 98) #[] #[.pointer (some ⟨w.heap.size+1+1+1+1+1+1,0,none⟩),.pointer (some ⟨w.heap.size+1+1+1+1+1,0,none⟩),Ma (w.heap.size+1+1),Ma (w.heap.size+1+1+1+1+1+1+1+1),Ma w.heap.size,Ma (w.heap.size+1+1+1+1+1+1+1+1+1),Ma (w.heap.size+1)]] 174)
 simp_all
theorem Z7(w:Ca)(a:Nat):qb ((((((((((w.alloc (.cells #[Ma a] 129)).alloc (.cells #[Ua] 132)).alloc (.cells #[Ua] 26)).alloc (.map #[] 0)).alloc (.map #[] 0)).alloc (.cells #[.map (some (w.heap.size+1+1+1))] 173)).alloc (.cells #[.map (some (w.heap.size+1+1+1+1))] 173)).alloc (.map #[] 0)).alloc (.cells #[.map (some (w.heap.size+1+1+1+1+1+1+1))] 61)).alloc (.cells #[.func (.func 98) #[] #[.pointer (some ⟨w.heap.size+1+1+1+1+1+1,0,none⟩),.pointer (some ⟨w.heap.size+1+1+1+1+1,0,none⟩),Ma (w.heap.size+1+1),Ma (w.heap.size+1+1+1+1+1+1+1+1),Ma w.heap.size,Ma (w.heap.size+1+1+1+1+1+1+1+1+1),Ma (w.heap.size+1)]] 174)) (w.heap.size+5) 173 #[.map (some (w.heap.size+1+1+1))]:=by
 grind [qb.alloc,qb.new,World.size_alloc]
theorem b8(w:Ca)(a:Nat):qb ((((((((((w.alloc (.cells #[Ma a] 129)).alloc (.cells #[Ua] 132)).alloc (.cells #[Ua] 26)).alloc (.map #[] 0)).alloc (.map #[] 0)).alloc (.cells #[.map (some (w.heap.size+1+1+1))] 173)).alloc (.cells #[.map (some (w.heap.size+1+1+1+1))] 173)).alloc (.map #[] 0)).alloc (.cells #[.map (some (w.heap.size+1+1+1+1+1+1+1))] 61)).alloc (.cells #[.func (.func 98) #[] #[.pointer (some ⟨w.heap.size+1+1+1+1+1+1,0,none⟩),.pointer (some ⟨w.heap.size+1+1+1+1+1,0,none⟩),Ma (w.heap.size+1+1),Ma (w.heap.size+1+1+1+1+1+1+1+1),Ma w.heap.size,Ma (w.heap.size+1+1+1+1+1+1+1+1+1),Ma (w.heap.size+1)]] 174)) (w.heap.size+6) 173 #[.map (some (w.heap.size+1+1+1+1))]:=by
 grind [qb.alloc,qb.new,World.size_alloc]
theorem j8(w:Ca)(a:Nat):qb ((((((((((w.alloc (.cells #[Ma a] 129)).alloc (.cells #[Ua] 132)).alloc (.cells #[Ua] 26)).alloc (.map #[] 0)).alloc (.map #[] 0)).alloc (.cells #[.map (some (w.heap.size+1+1+1))] 173)).alloc (.cells #[.map (some (w.heap.size+1+1+1+1))] 173)).alloc (.map #[] 0)).alloc (.cells #[.map (some (w.heap.size+1+1+1+1+1+1+1))] 61)).alloc (.cells #[.func (.func 98) #[] #[.pointer (some ⟨w.heap.size+1+1+1+1+1+1,0,none⟩),.pointer (some ⟨w.heap.size+1+1+1+1+1,0,none⟩),Ma (w.heap.size+1+1),Ma (w.heap.size+1+1+1+1+1+1+1+1),Ma w.heap.size,Ma (w.heap.size+1+1+1+1+1+1+1+1+1),Ma (w.heap.size+1)]] 174)) (w.heap.size+8) 61 #[.map (some (w.heap.size+1+1+1+1+1+1+1))]:=by
 grind [qb.alloc,qb.new,World.size_alloc]
theorem o8(w:Ca)(a:Nat):qb ((((((((((w.alloc (.cells #[Ma a] 129)).alloc (.cells #[Ua] 132)).alloc (.cells #[Ua] 26)).alloc (.map #[] 0)).alloc (.map #[] 0)).alloc (.cells #[.map (some (w.heap.size+1+1+1))] 173)).alloc (.cells #[.map (some (w.heap.size+1+1+1+1))] 173)).alloc (.map #[] 0)).alloc (.cells #[.map (some (w.heap.size+1+1+1+1+1+1+1))] 61)).alloc (.cells #[.func (.func 98) #[] #[.pointer (some ⟨w.heap.size+1+1+1+1+1+1,0,none⟩),.pointer (some ⟨w.heap.size+1+1+1+1+1,0,none⟩),Ma (w.heap.size+1+1),Ma (w.heap.size+1+1+1+1+1+1+1+1),Ma w.heap.size,Ma (w.heap.size+1+1+1+1+1+1+1+1+1),Ma (w.heap.size+1)]] 174)) (w.heap.size+9) 174 #[.func (.func 98) #[] #[.pointer (some ⟨w.heap.size+1+1+1+1+1+1,0,none⟩),.pointer (some ⟨w.heap.size+1+1+1+1+1,0,none⟩),Ma (w.heap.size+1+1),Ma (w.heap.size+1+1+1+1+1+1+1+1),Ma w.heap.size,Ma (w.heap.size+1+1+1+1+1+1+1+1+1),Ma (w.heap.size+1)]]:=by
 grind [qb.new,World.size_alloc]
theorem p8{d e:Type}(a:d->Ea)(b:e->Ea)(w:Ca)(c:Nat):Wb a b ((((((((((w.alloc (.cells #[Ma c] 129)).alloc (.cells #[Ua] 132)).alloc (.cells #[Ua] 26)).alloc (.map #[] 0)).alloc (.map #[] 0)).alloc (.cells #[.map (some (w.heap.size+1+1+1))] 173)).alloc (.cells #[.map (some (w.heap.size+1+1+1+1))] 173)).alloc (.map #[] 0)).alloc (.cells #[.map (some (w.heap.size+1+1+1+1+1+1+1))] 61)).alloc (.cells #[.func (.func 98) #[] #[.pointer (some ⟨w.heap.size+1+1+1+1+1+1,0,none⟩),.pointer (some ⟨w.heap.size+1+1+1+1+1,0,none⟩),Ma (w.heap.size+1+1),Ma (w.heap.size+1+1+1+1+1+1+1+1),Ma w.heap.size,Ma (w.heap.size+1+1+1+1+1+1+1+1+1),Ma (w.heap.size+1)]] 174)) (w.heap.size+3) []:=by
 have h:=Wb.alloc (Wb.alloc (Wb.alloc (Wb.alloc (Wb.alloc (Wb.alloc (Wb.made (ek:=a) (ev:=b) (((w.alloc (.cells #[Ma c] 129)).alloc (.cells #[Ua] 132)).alloc (.cells #[Ua] 26))) (.map #[] 0)) (.cells #[.map (some (w.heap.size+1+1+1))] 173)) (.cells #[.map (some (w.heap.size+1+1+1+1))] 173)) (.map #[] 0)) (.cells #[.map (some (w.heap.size+1+1+1+1+1+1+1))] 61)) (.cells #[.func (.func 98) #[] #[.pointer (some ⟨w.heap.size+1+1+1+1+1+1,0,none⟩),.pointer (some ⟨w.heap.size+1+1+1+1+1,0,none⟩),Ma (w.heap.size+1+1),Ma (w.heap.size+1+1+1+1+1+1+1+1),Ma w.heap.size,Ma (w.heap.size+1+1+1+1+1+1+1+1+1),Ma (w.heap.size+1)]] 174)
 simp_all
theorem q8{d e:Type}(a:d->Ea)(b:e->Ea)(w:Ca)(c:Nat):Wb a b ((((((((((w.alloc (.cells #[Ma c] 129)).alloc (.cells #[Ua] 132)).alloc (.cells #[Ua] 26)).alloc (.map #[] 0)).alloc (.map #[] 0)).alloc (.cells #[.map (some (w.heap.size+1+1+1))] 173)).alloc (.cells #[.map (some (w.heap.size+1+1+1+1))] 173)).alloc (.map #[] 0)).alloc (.cells #[.map (some (w.heap.size+1+1+1+1+1+1+1))] 61)).alloc (.cells #[.func (.func 98) #[] #[.pointer (some ⟨w.heap.size+1+1+1+1+1+1,0,none⟩),.pointer (some ⟨w.heap.size+1+1+1+1+1,0,none⟩),Ma (w.heap.size+1+1),Ma (w.heap.size+1+1+1+1+1+1+1+1),Ma w.heap.size,Ma (w.heap.size+1+1+1+1+1+1+1+1+1),Ma (w.heap.size+1)]] 174)) (w.heap.size+4) []:=by
 have h:=Wb.alloc (Wb.alloc (Wb.alloc (Wb.alloc (Wb.alloc (Wb.made (ek:=a) (ev:=b) ((((w.alloc (.cells #[Ma c] 129)).alloc (.cells #[Ua] 132)).alloc (.cells #[Ua] 26)).alloc (.map #[] 0))) (.cells #[.map (some (w.heap.size+1+1+1))] 173)) (.cells #[.map (some (w.heap.size+1+1+1+1))] 173)) (.map #[] 0)) (.cells #[.map (some (w.heap.size+1+1+1+1+1+1+1))] 61)) (.cells #[.func (.func 98) #[] #[.pointer (some ⟨w.heap.size+1+1+1+1+1+1,0,none⟩),.pointer (some ⟨w.heap.size+1+1+1+1+1,0,none⟩),Ma (w.heap.size+1+1),Ma (w.heap.size+1+1+1+1+1+1+1+1),Ma w.heap.size,Ma (w.heap.size+1+1+1+1+1+1+1+1+1),Ma (w.heap.size+1)]] 174)
 simp_all
theorem r8{d e:Type}(a:d->Ea)(b:e->Ea)(w:Ca)(c:Nat):Wb a b ((((((((((w.alloc (.cells #[Ma c] 129)).alloc (.cells #[Ua] 132)).alloc (.cells #[Ua] 26)).alloc (.map #[] 0)).alloc (.map #[] 0)).alloc (.cells #[.map (some (w.heap.size+1+1+1))] 173)).alloc (.cells #[.map (some (w.heap.size+1+1+1+1))] 173)).alloc (.map #[] 0)).alloc (.cells #[.map (some (w.heap.size+1+1+1+1+1+1+1))] 61)).alloc (.cells #[.func (.func 98) #[] #[.pointer (some ⟨w.heap.size+1+1+1+1+1+1,0,none⟩),.pointer (some ⟨w.heap.size+1+1+1+1+1,0,none⟩),Ma (w.heap.size+1+1),Ma (w.heap.size+1+1+1+1+1+1+1+1),Ma w.heap.size,Ma (w.heap.size+1+1+1+1+1+1+1+1+1),Ma (w.heap.size+1)]] 174)) (w.heap.size+7) []:=by
 grind [Wb.alloc,Wb.made,World.size_alloc]
theorem rN(w:Ca)(G:Nat->List Nat)(a:Nat):UO ((((((((((w.alloc (.cells #[Ma a] 129)).alloc (.cells #[Ua] 132)).alloc (.cells #[Ua] 26)).alloc (.map #[] 0)).alloc (.map #[] 0)).alloc (.cells #[.map (some (w.heap.size+1+1+1))] 173)).alloc (.cells #[.map (some (w.heap.size+1+1+1+1))] 173)).alloc (.map #[] 0)).alloc (.cells #[.map (some (w.heap.size+1+1+1+1+1+1+1))] 61)).alloc (.cells #[.func (.func 98) #[] #[.pointer (some ⟨w.heap.size+1+1+1+1+1+1,0,none⟩),.pointer (some ⟨w.heap.size+1+1+1+1+1,0,none⟩),Ma (w.heap.size+1+1),Ma (w.heap.size+1+1+1+1+1+1+1+1),Ma w.heap.size,Ma (w.heap.size+1+1+1+1+1+1+1+1+1),Ma (w.heap.size+1)]] 174)) w.heap.size G TS.start ((((((((((w.alloc (.cells #[Ma a] 129)).alloc (.cells #[Ua] 132)).alloc (.cells #[Ua] 26)).alloc (.map #[] 0)).alloc (.map #[] 0)).alloc (.cells #[.map (some (w.heap.size+1+1+1))] 173)).alloc (.cells #[.map (some (w.heap.size+1+1+1+1))] 173)).alloc (.map #[] 0)).alloc (.cells #[.map (some (w.heap.size+1+1+1+1+1+1+1))] 61)).alloc (.cells #[.func (.func 98) #[] #[.pointer (some ⟨w.heap.size+1+1+1+1+1+1,0,none⟩),.pointer (some ⟨w.heap.size+1+1+1+1+1,0,none⟩),Ma (w.heap.size+1+1),Ma (w.heap.size+1+1+1+1+1+1+1+1),Ma w.heap.size,Ma (w.heap.size+1+1+1+1+1+1+1+1+1),Ma (w.heap.size+1)]] 174)):=by
 have e:=(Ez w a).2;refine⟨Fr.start ja,q8 _ _ w a,⟨[],p8 _ _ w a,λx d=>by cases d⟩,⟨[],r8 _ _ w a,λx=>by simp[TS.start]⟩,_,_,[],⟨Y7 w a,Ec _ _ _ _⟩,⟨X7 w a,Ec _ _ _ _,rfl,λk c=>by cases c⟩,λg b=>by cases b⟩
theorem sN(w:Ca)(a n:Nat)(rows:List (List Nat))(b:LZ w a n rows):qV ((((((((((w.alloc (.cells #[Ma a] 129)).alloc (.cells #[Ua] 132)).alloc (.cells #[Ua] 26)).alloc (.map #[] 0)).alloc (.map #[] 0)).alloc (.cells #[.map (some (w.heap.size+1+1+1))] 173)).alloc (.cells #[.map (some (w.heap.size+1+1+1+1))] 173)).alloc (.map #[] 0)).alloc (.cells #[.map (some (w.heap.size+1+1+1+1+1+1+1))] 61)).alloc (.cells #[.func (.func 98) #[] #[.pointer (some ⟨w.heap.size+1+1+1+1+1+1,0,none⟩),.pointer (some ⟨w.heap.size+1+1+1+1+1,0,none⟩),Ma (w.heap.size+1+1),Ma (w.heap.size+1+1+1+1+1+1+1+1),Ma w.heap.size,Ma (w.heap.size+1+1+1+1+1+1+1+1+1),Ma (w.heap.size+1)]] 174)) w.heap.size a n rows:=by
 obtain⟨c,l⟩:=Ez w a;obtain⟨e,d,f,g⟩:=b.by_;refine⟨ja,b.len,Z7 w a,b8 w a,j8 w a,W7 w a,o8 w a,e,d,b.lt,(c.cell b.lt).trans f,λk j=>?_⟩;obtain⟨v,h,i⟩:=g k j;exact⟨v,(c.cell d).trans h,i.below c⟩
theorem tN{W:Ca}{v:Ea}(h:W.ownsRow j 3 1 v C.length (C.map iV)){B:Nat}(m:W.heap.size<=B):IntsIn W B C v:=by
 rcases h.2 with⟨rfl,b⟩|⟨g,cap,a,rfl,_,n,c,d,k,f⟩
 {have:=List.length_eq_zero_iff.1 b;subst this;exact⟨none,0,rfl,ja,ja,λe=>absurd rfl e⟩}
 ·refine⟨_,cap,rfl,c,d,λ_=>⟨g,0,rfl,?_,λi o=>?_⟩⟩
  ·grind
  ·have l:(a.toList.take (C.length*1))[i]? =(C.map iV)[i]? :=by rw[f]
   show W.cell? _=some _
   grind [World.cell?,iV]
theorem rV{W:Ca}{outs:List (List Int)}{u:Ea}{vals:List Ea}(d:W.ownsRow j 26 1 u vals.length vals)(hlen:vals.length=outs.length)
  (m:∀k,k<outs.length->W.ownsRow j 3 1 (vals.getD k undef) (outs.getD k []).length ((outs.getD k []).map iV)/\outs.getD k []≠[]) (t:∀o∈outs,∀x∈o,0<=x/\x<=1000) (hsz:outs.length<=100000):
  Db 101 #[u,.func (.func 102) #[] #[]] W λe n=>e=.returned (.tuple #[])/\
   ∃out:List (List Int),out.Perm outs/\out.Pairwise (λa b=>hd a<=hd b)/\KL n n.heap.size out u/\W.grownBy n u.ownBlock:=by
 obtain⟨f,z,D⟩:=sR vals outs hlen m t;have w:f.length=outs.length:=by grind
 by_cases hne:f=[]
 {subst hne;(cases z;cases D);(rcases d.2 with⟨rfl,_⟩|⟨g,cap,r,rfl,_,_,E,s,_⟩);{refine(Nr none 0 _ W).mono ?_;rintro e n ⟨rfl,rfl⟩;exact⟨rfl,[],List.Perm.refl _,List.Pairwise.nil,⟨none,0,rfl,ja,ja,λh=>absurd rfl h⟩,⟨rfl,rfl,rfl,ja,λ_ _ _=>rfl⟩⟩};{refine(Nr _ cap _ W).mono ?_;rintro e n ⟨rfl,rfl⟩;exact⟨rfl,[],List.Perm.refl _,List.Pairwise.nil,⟨_,cap,rfl,ja,s,λh=>absurd rfl h⟩,⟨rfl,rfl,rfl,ja,λ_ _ _=>rfl⟩⟩}}
 ·have C:=List.length_pos_iff.2 hne
  rw[hlen, <-w, <-z]at d;rcases d.2 with⟨rfl,q⟩|⟨g,cap,r,rfl,_,_,E,s,_⟩
  {omega}
  ·refine(uN f g cap hne ja d).mono ?_
   rintro e n ⟨rfl,c,H,K,how,A⟩;refine⟨rfl,c.map El.l,by grind,by grind,?_,A⟩;have G:=H.length_eq;rcases how.2 with⟨q,_⟩|⟨J,cap',p,q,_,y,L,M,N,I⟩
   {cases q}
   cases q
   refine⟨_,cap,by grind,by grind,s,λ_=>⟨g,0,rfl,(Array.getElem?_eq_some_iff.1 y).1,λi B=>?_⟩⟩;rw[Va]at B;have F:(p.toList.take (f.length*1))[i]? =(c.map El.v)[i]? :=by rw[I]
   rw[Ue ja,gd,Xa B]at F;refine⟨c[i].v,?_,?_⟩
   ·grind [World.cell?]
   {rw[Sd];refine tN ((c[i]).own.kept A ?_) ja;exact wi (c[i]).own d Ba}
section
attribute [local go_sem] Wk
theorem ry(n z:Nat)(rows:List (List Nat))(w:Ca)(hn:n<=1000)(y:∀k,∀x∈rows.getD k [],x<n)(hN:LZ w z n rows):
  Db 61 #[Ma z] w λe w'=>∃v,e=.returned v/\KL w' w'.heap.size ((Uh (eB (Sn rows)) n).map λl=>l.map λx:Nat=>(x:Int)) v/\Da w.heap.size w w':=by
 have zO:=@run_makeMap prog;go_enter func61,ntmps61;go_upto_region 7 with(fail);obtain⟨N,M⟩:∃N,((((((((((w.alloc (.cells #[Ma z] 129)).alloc (.cells #[Ua] 132)).alloc (.cells #[Ua] 26)).alloc (.map #[] 0)).alloc (.map #[] 0)).alloc (.cells #[.map (some (w.heap.size+1+1+1))] 173)).alloc (.cells #[.map (some (w.heap.size+1+1+1+1))] 173)).alloc (.map #[] 0)).alloc (.cells #[.map (some (w.heap.size+1+1+1+1+1+1+1))] 61)).alloc (.cells #[.func (.func 98) #[] #[.pointer (some ⟨w.heap.size+1+1+1+1+1+1,0,none⟩),.pointer (some ⟨w.heap.size+1+1+1+1+1,0,none⟩),Ma (w.heap.size+1+1),Ma (w.heap.size+1+1+1+1+1+1+1+1),Ma w.heap.size,Ma (w.heap.size+1+1+1+1+1+1+1+1+1),Ma (w.heap.size+1)]] 174))=N:=⟨_,rfl⟩;have D:=sN w z n rows hN;have hT:=rN w (Sn rows) z;obtain⟨m,yx⟩:=Ez w z;rw[M]at D hT m yx⊢;simp only[Nat.add_assoc,Nat.reduceAdd];have HV:=la (Cz N _ z n rows D hn y n);obtain⟨ap,cp,t⟩:=hN.ps;have hnl:=hN.lt;have HE:=la D;have R:=la m;have A8:=la t;have U:=la y;have t0:N.cell? _=some (.pointer _):=D.net.cell 0;have t1:=(m.cell hnl).trans t;have HT:=la hT;clear D m t y hT zO M;go_wp2
 go_loopw [22] (λiv wr=>∃(k:Nat) (s:TS),k<=n/\iv=pa k/\Hid (Inv (Sn rows) (λ_=>False) s)/\Hid (∀x∈s.ng,x<n)/\Hid (∀x,x<k->x∈s.ng)/\Hid (UO N w.heap.size (Sn rows) s wr)) (λiv _=>n-(intOf iv).toNat)
 case atStart=>exact⟨0,_,ja,rfl,tM _,λx j=>(by cases j),λx j=>ja,HT⟩
 case round=>
  obtain⟨k,s,hk,rfl,hinv,K,d,hst⟩:=hrel;obtain⟨q1,q2,q3,q4,q5⟩:=boxes HE.o hst.o.fr;by_cases hlt:k<n
  ·have r:=af vj.key Tryz.underlying173 Ip hst.o.num k
   rw[Ak,Vb]at r;by_cases f:k∈s.ng
   ·rw[Ga f]at r
    have P:=la (show ∀x,x<k+1->x∈s.ng from λx j=>by
     by_cases e:x=k
     {rw[e];exact f}
     ·exact d.o x ja)
    have S:=hinv;have Z:=K;have V:=hst;go_wp2;go_roundw
    case rel=>exact⟨_,s,ja,by go_num,S,Z,P,V⟩
    case measure=>simp[intOf];omega
   {rw[if_neg f]at r;have HC:=la (HV.o k (λ_=>False) s _ ja hlt (hinv.o.outer f) K.o hst.o);have P:=d;clear f d hinv K hst;go_wp2_with (go_at_call 98;refine HC.o.mono ?_;rintro e w4 ⟨rfl,s1,h,L,p⟩;have B:=la h;have Y:=la L;have W:=la p;clear h L p);(have Q:Hid (∀x,x<k+1->x∈s1.ng):=λx j=>by{obtain⟨l,hl⟩:=B.o.ng;rw[hl];by_cases e:x=k;{rw[e];simp};{exact Hg _ (P.o x ja)}});go_roundw;(case rel=>exact⟨_,s1,ja,by go_num,B.o.inv,Y,Q,W⟩);case measure=>simp[intOf];omega}
  {(have zI:k=n:=ja);subst zI;obtain⟨v,u,vals,_,a,_⟩:=hst.o.mem;(have i:∀x,x∈s.ng↔x<k:=λx=>⟨K.o x,d.o x⟩);(have q:=λc E x j=>(i x).1 ((hinv.o.part x).2 (.inr (List.mem_flatten.2 ⟨c,E,j⟩))));have vF:(aj (Sn rows) s.jd).length<=k:=by{have h1:=sV (Sn rows) s.jd;have h2:=LC _ hinv.o.ne;have h3:=Ac hinv.o.once (λx j=>by obtain⟨c,E,hxc⟩:=List.mem_flatten.1 j;exact List.mem_range.2 (q c E x hxc));rw[Jd]at h3;omega};have X:=la (rV a.own a.len a.rows (tV λc E x j=>by have:=q c E x j;omega) ja);have H:wr.cell? _=some u:=a.Pd.cell 0;have HOW:=la a.own;have HVI:=la i;have S:=hinv;have HF:=la hst.o.fr;(have J:∀b,u.ownBlock=some b->w.heap.size+10<=b:=λb O=>by{(rcases a.own.2 with⟨rfl,_⟩|⟨g,cap,Aq,rfl,DX,_⟩);{cases O};{cases O;exact DX}});have C:=la J;clear a i q vF hinv hst J d K hk;go_wp2_with (go_at_call 101;refine X.o.mono ?_;rintro e w4 ⟨rfl,out,hp,hs,I,hg⟩;have HG:=la hg;have HP:=la hp;have V:=la hs;have T:=la I;have aob:=(show w4.cell? (Ya (w.heap.size+1))=some u by unfold World.cell? at H⊢;rw[hg.block (w.heap.size+1) (by have:=HF.o.size;omega) (λe=>by have:=C.o _ e.symm;omega)];exact H);clear hg hp hs I);go_ret;refine⟨u,rfl,?_,?_⟩;{rw[<-MZ (G:=Sn rows) U.o S.o HVI.o out HP.o V.o];exact T.o};{have F:=HF.o;have G:=HG.o;have A:=R.o;refine⟨G.os.trans (F.os.trans A.os),G.tape.trans (F.tape.trans A.tape),G.output.trans (F.output.trans A.output),?_,λb O=>?_⟩;{have:=A.size;have:=F.xL;have:=G.size;omega};{exact(G.block b (by have:=F.size;omega) (λe=>by have:=C.o _ e.symm;omega)).trans ((F.fr b ja ja ja ja ja ja).trans (A.block b O))}}}
end
structure pF (w0 : Ca) (B ab nb bb mk : Nat) (d : List Fa) (ps : List Pv) (c : List Int) (rows : List (List Nat)) (ad : Option Addr) (cd : Nat) (ap : Option Addr) (cp : Nat) (ac : Option Addr) (cc : Nat) : Prop where
 hB:B<=mk
 mlt:mk<ab
 alt:ab<w0.heap.size
 B8:nb<mk
 blt:bb<mk
 a0:w0.cell? (Ya ab)=some (Ma nb)
 a1:w0.cell? (Ja ab 1)=some (.slice ac c.length cc)
 a2:w0.cell? (Ja ab 2)=some (.map (some mk))
 n0:w0.cell? (Ya nb)=some (.slice ad d.length cd)
 n1:w0.cell? (Ja nb 1)=some (.slice ap ps.length cp)
 n4:w0.cell? (Ja nb 4)=some (.slice (Nb bb) ps.length ps.length)
 rw_:∀k,k<ps.length->∃v,w0.cell? (Ja bb k)=some v/\IntsIn w0 mk ((rows.getD k []).map λx:Nat=>(x:Int)) v
 dom:jf w0 B d (.agg #[.slice ad d.length cd])
 prv:Sa jm 23 w0 B ps (.slice ap ps.length cp)
 cas:IntsIn w0 B c (.slice ac c.length cc)
 x_:∀k,∀x∈rows.getD k [],x<ps.length
structure Kn (w0 : Ca) (mk ab : Nat) (ap : Nat -> Bool) (W : Ca) : Prop where
 gr:w0.grownBy W (some mk)
 mm:Da mk w0 W
 ask:W.heap[ab]? =w0.heap[ab]?
 map:∃l,Wb (Value.int .i64) Value.bool W mk l/\∀(k:Nat) (b:Bool),l.lookup (k:Int)=some b->b=ap k
theorem Kn.below{d W e:Ca}{b:Nat}{f:Nat->Bool}(h:Kn d j b f W)(n:j<b)(m:b<d.heap.size)(a:Da W.heap.size W e):Kn d j b f e:=by
 obtain⟨l,c,i⟩:=h.map;have o:=h.mm.size;exact⟨⟨a.os.trans h.gr.os,a.tape.trans h.gr.tape,a.output.trans h.gr.output,ub h.gr.size a.size,λk g hne=>(a.block k ja).trans (h.gr.block k g hne)⟩,h.mm.trans (a.mono ja),(a.block b ja).trans h.ask,l,c.of_block (a.block j ja),i⟩
theorem Kn.drew{b W:Ca}{mk a:Nat}{c:Nat->Bool}(h:Kn b mk a c W)(e:mk<a)(d:a<b.heap.size):Kn b mk a c W.drew:=h.below e d (za _ _).drew
theorem Kn.base{c W:Ca}{a:Nat}{b:Nat->Bool}(h:Kn c j a b W):Kn W j a b W:=⟨⟨rfl,rfl,rfl,ja,λ_ _ _=>rfl⟩,za _ _,rfl,h.map⟩
theorem Kn.trans{f W d:Ca}{mk b:Nat}{c:Nat->Bool}(h:Kn f mk b c W)(a:Kn W mk b c d):Kn f mk b c d:=
 ⟨⟨a.gr.os.trans h.gr.os,a.gr.tape.trans h.gr.tape,a.gr.output.trans h.gr.output,ub h.gr.size a.gr.size,λk e hne=>(a.gr.block k (Zb e h.gr.size) hne).trans (h.gr.block k e hne)⟩,h.mm.trans a.mm,a.ask.trans h.ask,a.map⟩
theorem Kn.grown{d W g:Ca}{mk c:Nat}{i:Nat->Bool}(h:Kn d mk c i W)(o:mk<c)(n:c<d.heap.size){row:Option Nat}(a:W.grownBy g row)(p:∀b,row=some b->d.heap.size<=b):Kn d mk c i g:=by
 obtain⟨l,f,m⟩:=h.map;have q:=h.mm.size;refine⟨⟨a.os.trans h.gr.os,a.tape.trans h.gr.tape,a.output.trans h.gr.output,ub h.gr.size a.size,λk j hne=>(a.block k ja (λe=>by grind)).trans (h.gr.block k j hne)⟩,h.mm.grown a ?_ ?_,(a.block c ja (λe=>by grind)).trans h.ask,l,f.grown a (λe=>by grind),m⟩
 all_goals grind
theorem pF.cells{r:Ca}{m k t mk:Nat}{rows:List (List Nat)}{F:Nat}{B:Option Addr}{G:Nat}{ac:Option Addr}{E:Nat}(e:pF r j m k t mk D P C rows A F B G ac E){apf:Nat->Bool}(i:Nat)(H:i<P.length):
  ∃d g s u y w,B=some ⟨d,g,none⟩/\IntsIn r mk ((rows.getD i []).map λx:Nat=>(x:Int)) (.slice y (rows.getD i []).length w)/\(P[i].cond).In r j (.agg #[pa P[i].cond.op,.string P[i].cond.name,pa P[i].cond.cmp,pa P[i].cond.n,.slice s P[i].cond.kids.length u])/\
   ∀f,Kn r mk m apf f->(f.cell? (Ya m)=some (Ma k)/\f.cell? (Ja m 1)=some (.slice ac C.length E)/\f.cell? (Ya k)=some (.slice A D.length F)/\f.cell? (Ja k 1)=some (.slice (fe d g) P.length G)/\f.cell? (Ja k 4)=some (.slice (Nb t) P.length P.length)/\f.cell? (Ja t i)=some (.slice y (rows.getD i []).length w)/\f.cell? (Ja d (g+i*23+5))=some (pa P[i].cond.op)/\f.cell? (Ja d (g+i*23+6))=some (.string P[i].cond.name)/\f.cell? (Ja d (g+i*23+7))=some (pa P[i].cond.cmp)/\f.cell? (Ja d (g+i*23+8))=some (pa P[i].cond.n)/\f.cell? (Ja d (g+i*23+9))=some (.slice s P[i].cond.kids.length u)):=by
 obtain⟨d,g,rfl,L,s,u,N,O,q,K,_⟩:=Sa.at e.prv i H;obtain⟨v,I,l⟩:=e.rw_ i H;obtain⟨y,w,rfl,_⟩:=Sa.shape l;rw[Va]at I l;refine⟨d,g,s,u,y,w,rfl,l,K,λf h=>?_⟩;have Q:=e.hB;have z:=e.B8;have M:=e.blt;have o:=λc=>World.cell?_of_block (a:=Ja m c) h.ask
 have hcB:∀b c,b<mk->f.cell? _=r.cell? _:=λb c J=>h.mm.cell (p:=Ja b c) J
 refine⟨(o 0).trans e.a0,(o 1).trans e.a1,(hcB k 0 z).trans e.n0,(hcB k 1 z).trans e.n1,(hcB k 4 z).trans e.n4,(hcB t i M).trans I,(hcB d _ ja).trans (q 5 _ rfl),(hcB d _ ja).trans (q 6 _ rfl),(hcB d _ ja).trans (q 7 _ rfl),(hcB d _ ja).trans (q 8 _ rfl),(hcB d _ ja).trans (q 9 _ rfl)⟩
theorem Kn.put{n W g:Ca}{d:Nat}{f:Nat->Bool}(h:Kn n j d f W)(r:j<d){l:List (Int×Bool)}(q:∀(k:Nat) (b:Bool),l.lookup (k:Int)=some b->b=f k)(i:Nat)(b:Bool)(p:b=f i)(c:Wb (Value.int .i64) Value.bool g j (ins l (i:Int) b))(a:Bq j W g):Kn n j d f g:=by
 refine⟨⟨a.os.trans h.gr.os,a.tape.trans h.gr.tape,a.output.trans h.gr.output,by rw[a.size];exact h.gr.size,λk m hne=>(a.block k (λe=>hne (by rw[e]))).trans (h.gr.block k m hne)⟩,h.mm.trans (a.below ja),(a.block d ja).trans h.ask,_,c,λk o m=>?_⟩
 grind [Ve,ef]
theorem pF.move{n W:Ca}{i g m mk:Nat}{rows:List (List Nat)}{r:Nat}{o:Option Addr}{s:Nat}{ac:Option Addr}{q:Nat}(e:pF n j i g m mk D P C rows A r o s ac q){l:Nat->Bool}(h:Kn n mk i l W):
  pF W j i g m mk D P C rows A r o s ac q:=by
 have d:=λc=>World.cell?_of_block (a:=Ja i c) h.ask
 have hcB:∀b c,b<mk->W.cell? _=n.cell? _:=λb c f=>h.mm.cell (p:=Ja b c) f
 have f:=h.mm.mono e.hB;refine⟨e.hB,e.mlt,Zb e.alt h.mm.size,e.B8,e.blt,(d 0).trans e.a0,(d 1).trans e.a1,(d 2).trans e.a2,(hcB g 0 e.B8).trans e.n0,(hcB g 1 e.B8).trans e.n1,(hcB g 4 e.B8).trans e.n4,λk w=>?_,e.dom.below f,e.prv.below jm.kept f,e.cas.below f,e.x_⟩;obtain⟨v,t,u⟩:=e.rw_ k w;exact⟨v,(hcB m k e.blt).trans t,u.below h.mm⟩
def rowsOf(a:List Pv):List (List Nat):=Ru (Fl (a.map Pv.id) a.length) (a.map Pv.except) a.length
def zT(a:List Pv):Bool:=decide ((Fl (a.map Pv.id) a.length).length=a.length)
def Pm(d:List Fa)(a:List Pv)(c:List Int):Int:=if zT a=true/\Vh d c=true/\a.any (tF d)=false then(if Uh (eB (Sn (rowsOf a))) a.length=[]then 0 else 13)else 1
theorem Ws(a:List Pv):zT a=true↔(a.map Pv.id).Nodup:=by
 grind [cL,zT]
theorem Ui(a:List Pv):(rowsOf a).length=a.length:=by grind [rowsOf,et]
theorem Fz(b:(P.map Pv.id).Nodup)(k:Nat)(a:k<P.length):(rowsOf P).getD k []=(List.range P.length).filter λj=>xi ((P.map Pv.except).getD j []) P[k].id:=by
 grind [dL,List.length_map,rowsOf]
theorem GB(a:(P.map Pv.id).Nodup)(k:Nat):∀x∈(rowsOf P).getD k [],x<P.length:=by
 grind [Fz,Ui]
theorem LL{W:Ca}{c:Nat}{u1 u2 u3:Ea}{ids:List Na}{rows:List (List Nat)}(h:yP W j c u1 u2 u3 ids rows):
  ∃a,a<W.heap.size/\W.cell? (Ja c 4)=some (.slice (Nb a) rows.length rows.length)/\∀k,k<rows.length->∃v,W.cell? (Ja a k)=some v/\IntsIn W W.heap.size ((rows.getD k []).map λx:Nat=>(x:Int)) v:=by
 obtain⟨g,a,d,_,⟨base,i,b⟩,_,_,_⟩:=h.Pd;refine⟨a,b.Pd.lt,d.cell 4,λk e=>⟨_,?_,Sm (b.own k e) ja⟩⟩;have:=b.Pd.cell k;have f:=b.len
 grind
theorem uy{W b:Ca}{g n:Nat}{u1 u3:Ea}{c:Nat}{ids:List Na}{rows:List (List Nat)}(h:yP W j g u1 (.slice A n c) u3 ids rows)(f:rows.length=n)(a:Da W.heap.size W b):LZ b g n rows:=by
 obtain⟨i,m,o,p⟩:=LL h;obtain⟨u,l,d,_⟩:=h.Pd;have s:=a.size;have e:=d.lt;refine⟨⟨A,c,(a.cell e).trans (d.cell 1)⟩,f,ja,i,ja,?_,λk t=>?_⟩
 {rw[a.cell e,o,f]}
 {obtain⟨v,q,r⟩:=p k ja;exact⟨v,(a.cell m).trans q,(r.below a).mono (Ad.mono _) s⟩}
section
attribute [local go_sem] Wk
theorem eP(d:List Fa)(j:List Pv)(c:List Int)(v cv:Ea)(w:Ca)(B:Nat)(hn:j.length<=1000)(hB:B<=w.heap.size)(hl:ur w B d j v)(hex:∀p∈j,p.except.length<=40)(hsz:∀p∈j,p.cond.size<=1000000)(hc:IntsIn w B c cv):
  Db 38 #[v,cv] w λe E=>∃p,e=.returned (.tuple #[.pointer p,pa (Pm d j c)])/\Da w.heap.size w E/\
   (Pm d j c=0->∃ab D bb mk mb F H G I ac cc,p=some ⟨ab,0,none⟩/\pF E B ab D bb mk d j c (rowsOf j) F H G I ac cc/\w.heap.size<=mk/\(∀apf,Kn E mk ab apf E)/\mb<mk/\E.cell? (Ja D 3)=some (.map (some mb))/\Wb Value.string (Value.int .i64) E mb (Fl (j.map Pv.id) j.length)):=by
 have QW:=hl;obtain⟨u1,u2,y,ns,V,rfl,hd,hp⟩:=hl;have Y:=hd;have hp0:=hp;obtain⟨F,H,rfl,d1,d2,_⟩:=Sa.shape hd;obtain⟨G,I,rfl,p1,p2,_⟩:=Sa.shape hp;have gU:=hc;obtain⟨ac,cc,rfl,c1,c2,_⟩:=Sa.shape hc;have X:Da _ w (w.alloc (.cells #[.slice F d.length H,.slice G j.length I,.slice y ns V] 28)):=(za _ _).alloc (wa _) _;have K0:=qb.new w 28 #[.slice F d.length H,.slice G j.length I,.slice y ns V];have x0:(w.alloc _).cell? _=some (.slice F _ H):=K0.cell 0;have x1:(w.alloc _).cell? _=some (.slice G _ I):=K0.cell 1;have x2:(w.alloc _).cell? _=some (.slice y ns V):=K0.cell 2;have M:=la (kP d j _ _ B hn (by simp;omega) (QW.below (X.mono hB)) hex);have L:=la X;have P:∀W,Da (w.alloc (.cells #[.slice F d.length H,.slice G j.length I,.slice y ns V] 28)).heap.size (w.alloc (.cells #[.slice F d.length H,.slice G j.length I,.slice y ns V] 28)) W->Da B w W:=λW h=>(X.mono hB).trans (h.mono (by simp;omega))
 have U:Hid (∀W,Da (w.alloc (.cells #[.slice F d.length H,.slice G j.length I,.slice y ns V] 28)).heap.size (w.alloc (.cells #[.slice F d.length H,.slice G j.length I,.slice y ns V] 28)) W->Db 22 #[.agg #[.slice F d.length H],.slice ac c.length cc] W λe E=>e=.returned (.bool (Vh d c))/\Da W.heap.size W E):=by{intro W h;have hs:=h.size;simp at hs;exact Tt d c _ _ W B ja (jf.below (P W h) ⟨_,rfl,Y⟩) (gU.below (P W h))}
 have HCO:Hid (∀W,Da (w.alloc (.cells #[.slice F d.length H,.slice G j.length I,.slice y ns V] 28)).heap.size (w.alloc (.cells #[.slice F d.length H,.slice G j.length I,.slice y ns V] 28)) W->Db 79 #[.slice G j.length I,.func (.func 77) #[] #[.pointer (some ⟨w.heap.size,0,none⟩)]] W λe E=>e=.returned (.bool (j.any (tF d)))/\Da W.heap.size W E):=by
  intro W h;have hs:=h.size;simp at hs
  refine yy j 77 _ _ (λW'=>Da _ W W') B G I W (enters_of func77 Ha rfl) p2 p1
   (λW' h'=>hp0.below jm.kept ((P W h).trans (h'.mono ja))) ?_ (za _ _)
  rintro W' x u hx h' ⟨ak,ck,ae,ce,rfl,hf⟩;have hs':=h'.size;have wM:=h.trans (h'.mono (by simp;omega));refine(rP d x ak ck ae ce _ F H B W' (hsz x hx) ja ja ((wM.cell Aa).trans x0) (jf.below (P W' wM) ⟨_,rfl,Y⟩) hf).mono ?_;rintro e E ⟨he,hb⟩;exact⟨he,h'.trans (hb.mono hs')⟩
 have zO:=@run_makeMap prog;have hnn:decide (2000<(j.length:Int))=false:=by simp;omega
 have HD0:=la Y;have hU:=la hp0;have HC0:=la gU;have HR:Hid (Pm d j c=if zT j=true/\Vh d c=true/\j.any _=false then(if Uh _ _=[]then 0 else 13)else 1):=rfl;have hOK:decide _=zT j:=rfl;have HLT:=la (λh=>GB ((Ws j).1 h));generalize Pm d j c=R at*
 generalize m:zT j=okk at*
 have N:=la hOK;clear QW hd hp Y hp0 hc gU X K0 P m hOK hsz hex;cases okk with
 | false=>{have J:=la (show(1:Int)=R by rw[HR.o];simp);go_enter func38,ntmps38;go_wp2_with (go_at_call 60;refine M.o.mono ?_;rintro e w1 ⟨D,u1,u2,u3,ok,f,rfl,m,i,a⟩;injection f with f;injection f with f;injection f with v1 f;injection f with v2 f;injection f with v3 f;subst v1;subst v2;subst v3;clear f;have q:=la i;have s:=la (L.o.trans (a.mono Aa));have z:=a.size;simp at z;rw[N.o]at m;subst m;clear i a);go_ret2;exact⟨none,by rw[J.o];rfl,s.o,λh=>by have:=J.o;omega⟩}
 | true=>
  generalize hff:Vh d c=ff at*
  cases ff with
  | false=>
   have J:=la (show(1:Int)=R by rw[HR.o];simp);go_enter func38,ntmps38
   go_wp2_with (first
    | (go_at_call 60;refine M.o.mono ?_;rintro e w1 ⟨D,u1,u2,u3,ok,f,rfl,m,i,a⟩;injection f with f;injection f with f;injection f with v1 f;injection f with v2 f;injection f with v3 f;subst v1;subst v2;subst v3;clear f;have q:=la i;have s:=la (L.o.trans (a.mono Aa));have r:=la a;have y0:=(a.cell (p:=Ya w.heap.size) Aa).trans x0;have y1:=(a.cell (p:=Ja w.heap.size 1) Aa).trans x1;have z:=a.size;simp only[Ia]at z;rw[N.o]at m;subst m;clear i a)
    | (go_at_call 22;refine(U.o _ r.o).mono ?_;rintro e w2 ⟨rfl,g⟩;have z0:=(g.cell (p:=Ya w.heap.size) (by simp;omega)).trans y0;have z1:=(g.cell (p:=Ja w.heap.size 1) (by simp;omega)).trans y1;have n:=la g;have BA:=g.size;clear g))
   go_ret2;exact⟨none,by rw[J.o];rfl,s.o.trans (n.o.mono ja),λh=>by have:=J.o;omega⟩
  | true=>
   generalize R_:j.any _=bd at*
   cases bd with
   | true=>
    have J:=la (show(1:Int)=R by rw[HR.o];simp);go_enter func38,ntmps38
    go_wp2_with (first
     | (go_at_call 60;refine M.o.mono ?_;rintro e w1 ⟨D,u1,u2,u3,ok,f,rfl,m,i,a⟩;injection f with f;injection f with f;injection f with v1 f;injection f with v2 f;injection f with v3 f;subst v1;subst v2;subst v3;clear f;have q:=la i;have s:=la (L.o.trans (a.mono Aa));have r:=la a;have y0:=(a.cell (p:=Ya w.heap.size) Aa).trans x0;have y1:=(a.cell (p:=Ja w.heap.size 1) Aa).trans x1;have z:=a.size;simp only[Ia]at z;rw[N.o]at m;subst m;clear i a)
     | (go_at_call 22;refine(U.o _ r.o).mono ?_;rintro e w2 ⟨rfl,g⟩;have z0:=(g.cell (p:=Ya w.heap.size) (by simp;omega)).trans y0;have z1:=(g.cell (p:=Ja w.heap.size 1) (by simp;omega)).trans y1;have n:=la g;have BA:=g.size;clear g)
     | (go_at_call 79;refine(HCO.o _ (r.o.trans (n.o.mono (by simp;omega)))).mono ?_;rintro e w3 ⟨rfl,C⟩;have t:=la C;clear C))
    go_ret2;exact⟨none,by rw[J.o];rfl,(s.o.trans (n.o.mono ja)).trans (t.o.mono ja),λh=>by have:=J.o;omega⟩
   | false=>
    have GY:Hid (∀(D:Nat) W,LZ W D j.length (rowsOf j)->Db 61 #[Ma D] W λe E=>∃v,e=.returned v/\KL E E.heap.size ((Uh (eB (Sn (rowsOf j))) j.length).map λl=>l.map λx:Nat=>(x:Int)) v/\Da W.heap.size W E):=
     λD W h=>ry _ D _ W hn (HLT.o (by trivial)) h
    have JL:Hid (R=if Uh (eB (Sn (rowsOf j))) j.length=[]then 0 else 13):=by show _=_;rw[HR.o];simp
    clear HR;generalize Uh _ _=cr at*
    by_cases Q:cr=[]
    ·have e0:decide (0<cr.length)=false:=by rw[Q];rfl
     have J:=la (show(0:Int)=R by rw[JL.o,Ga Q]);clear Q JL;go_enter func38,ntmps38
     go_wp2_with (first
      | (go_at_call 60;refine M.o.mono ?_;rintro e w1 ⟨D,u1,u2,u3,ok,f,rfl,m,i,a⟩;injection f with f;injection f with f;injection f with v1 f;injection f with v2 f;injection f with v3 f;subst v1;subst v2;subst v3;clear f;have q:=la i;have s:=la (L.o.trans (a.mono Aa));have r:=la a;have y0:=(a.cell (p:=Ya w.heap.size) Aa).trans x0;have y1:=(a.cell (p:=Ja w.heap.size 1) Aa).trans x1;have z:=a.size;simp only[Ia]at z;rw[N.o]at m;subst m;clear i a)
      | (go_at_call 22;refine(U.o _ r.o).mono ?_;rintro e w2 ⟨rfl,g⟩;have z0:=(g.cell (p:=Ya w.heap.size) (by simp;omega)).trans y0;have z1:=(g.cell (p:=Ja w.heap.size 1) (by simp;omega)).trans y1;have n:=la g;have BA:=g.size;clear g)
      | (go_at_call 79;refine(HCO.o _ (r.o.trans (n.o.mono (by simp;omega)))).mono ?_;rintro e w3 ⟨rfl,C⟩;have t:=la C;clear C)
      | (go_at_call 61;(refine(GY.o _ _ (uy q.o (Ui j) ((n.o.mono ja).trans (t.o.mono ja)))).mono ?_;rintro e K ⟨gv,rfl,S,O⟩;obtain⟨ga,gc,rfl,g1,g2,_⟩:=Sa.shape S;rw[Va];have T:=la O;clear O S)))
     go_ret2;have LY:=t.o.size;have hz4:=T.o.size;have hW:Da _ K ((K.alloc (.map #[] 0)).alloc (.cells #[Ma D,.slice ac c.length cc,.map (some K.heap.size)] 159)):=((za _ _).alloc (wa _) _).alloc Aa _;have h14:=((n.o.mono (wa _)).trans (t.o.mono BA)).trans (T.o.mono ja);have A:=h14.trans (hW.mono ja);have xX:=s.o.trans (A.mono ja);have M3:=xX.mono hB;have HN:=q.o;obtain⟨mb,bb0,hblk,sX,⟨base,vs,hrw⟩,_,_,_⟩:=HN.Pd;obtain⟨bb,r1,r2,r3⟩:=LL HN;have Z:=hblk.lt;have GF:=sX.lt;have NT:(Ru _ _ _).length=j.length:=Ui j;rw[NT]at r2 r3;have K1:qb ((K.alloc (.map #[] 0)).alloc (.cells #[Ma D,.slice ac c.length cc,.map (some K.heap.size)] 159)) (K.heap.size+1) 159 #[Ma D,.slice ac c.length cc,.map (some K.heap.size)]:=by have h:=qb.new (K.alloc (.map #[] 0)) 159 #[Ma D,.slice ac c.length cc,.map (some K.heap.size)];simp at h;exact h
     refine⟨_,by rw[<-J.o];rfl,xX,λ_=>⟨_,D,bb,K.heap.size,mb,F,H,G,I,ac,cc,rfl,⟨ja,ja,Aa,ja,ja,?_,?_,?_,?_,?_,?_,λk hk=>?_,?_,?_,?_,HLT.o (by trivial)⟩,ja,λapf=>⟨⟨rfl,rfl,rfl,ja,λ_ _ _=>rfl⟩,za _ _,rfl,[],?_,λk b h=>by cases h⟩,ja,?_,?_⟩⟩
     {exact K1.cell 0}
     {exact K1.cell 1}
     {exact K1.cell 2}
     {exact(A.cell Z).trans (hblk.cell 0)}
     {exact(A.cell Z).trans (hblk.cell 1)}
     {exact(A.cell Z).trans r2}
     {obtain⟨v,q1,q2⟩:=r3 k hk;exact⟨v,(A.cell r1).trans q1,(q2.below A).mono (Ad.mono _) ja⟩}
     {exact jf.below M3 ⟨_,rfl,HD0.o⟩}
     {exact hU.o.below jm.kept M3}
     {exact HC0.o.below M3}
     {exact(Wb.made K).alloc _}
     {exact(A.cell Z).trans (hblk.cell 3)}
     {have h:=sX.of_block (A.block mb GF);rw[(Va _)]at h;exact h}
    ·have e0:decide (0<cr.length)=true:=by have:=List.length_pos_iff.2 Q;simpa using this
     have J:=la (show(13:Int)=R by rw[JL.o,if_neg Q]);go_enter func38,ntmps38
     go_wp2_with (first
      | (go_at_call 60;refine M.o.mono ?_;rintro e w1 ⟨D,u1,u2,u3,ok,f,rfl,m,i,a⟩;injection f with f;injection f with f;injection f with v1 f;injection f with v2 f;injection f with v3 f;subst v1;subst v2;subst v3;clear f;have q:=la i;have s:=la (L.o.trans (a.mono Aa));have r:=la a;have y0:=(a.cell (p:=Ya w.heap.size) Aa).trans x0;have y1:=(a.cell (p:=Ja w.heap.size 1) Aa).trans x1;have z:=a.size;simp only[Ia]at z;rw[N.o]at m;subst m;clear i a)
      | (go_at_call 22;refine(U.o _ r.o).mono ?_;rintro e w2 ⟨rfl,g⟩;have z0:=(g.cell (p:=Ya w.heap.size) (by simp;omega)).trans y0;have z1:=(g.cell (p:=Ja w.heap.size 1) (by simp;omega)).trans y1;have n:=la g;have BA:=g.size;clear g)
      | (go_at_call 79;refine(HCO.o _ (r.o.trans (n.o.mono (by simp;omega)))).mono ?_;rintro e w3 ⟨rfl,C⟩;have t:=la C;clear C)
      | (go_at_call 61;(refine(GY.o _ _ (uy q.o (Ui j) ((n.o.mono ja).trans (t.o.mono ja)))).mono ?_;rintro e K ⟨gv,rfl,S,O⟩;obtain⟨ga,gc,rfl,g1,g2,_⟩:=Sa.shape S;rw[Va];have T:=la O;clear O S)))
     go_ret2;exact⟨none,by rw[J.o];rfl,((s.o.trans (n.o.mono ja)).trans (t.o.mono ja)).trans (T.o.mono (by have:=t.o.size;omega)),λh=>by have:=J.o;omega⟩
end
end Go.Proofs.YtdipkbobalnilaaGreatDoor
