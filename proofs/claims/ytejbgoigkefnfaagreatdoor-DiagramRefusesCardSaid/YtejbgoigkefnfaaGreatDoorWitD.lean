/- The arguments opened: diagrams. No conditions. -/
import Derived.Test.YtejbgoigkefnfaaGreatDoorDgWit
import Derived.Test.YtejbgoigkefnfaaGreatDoorDgVC
namespace Go.Proofs.YtejbgoigkefnfaaGreatDoor
open Go.RowKit Go.ChangeShapes Go.ChangeMaps

section
variable {H : Type} {enc : TypeId × Value → H} {W : World} {sp : Nat → Bool} {hd : Bool}

theorem cDg : Tryz.prog.cellsOf 34 = 1 := by kernel_rfl
theorem cNodes : Tryz.prog.cellsOf 32 = 1 := by kernel_rfl
theorem cNode : Tryz.prog.cellsOf 56 = 4 := by kernel_rfl
theorem cBool : Tryz.prog.cellsOf 4 = 1 := by kernel_rfl
theorem cInts : Tryz.prog.cellsOf 28 = 1 := by kernel_rfl

/-- a number among the arguments -/
def I64R : CellRel Int := fun w _ x b o => w.cell? ⟨b, o, none⟩ = some (.int .i64 x) ∧ W64 x
theorem i64_ints {w : World} {B : Nat} {l : List Int} {v : Value} (h : SlIn I64R 1 w B l v) : IntsIn w B l v ∧ ∀ x ∈ l, W64 x := by
  obtain ⟨ao, cap, h1, h2, h3, h4⟩ := h
  refine ⟨⟨ao, cap, h1, h2, h3, fun hne => ?_⟩, fun x hx => ?_⟩
  · obtain ⟨b, o, e1, e2, e3⟩ := h4 hne
    exact ⟨b, o, e1, e2, fun i hi => (e3 i hi).1⟩
  · obtain ⟨j, hj, rfl⟩ := List.getElem_of_mem hx
    obtain ⟨b, o, e1, e2, e3⟩ := h4 (by intro e; rw [e] at hj; cases hj)
    exact (e3 j hj).2
theorem open_i64s {fuel : Nat} {v : Value} {y : Option (DataW H × List MemPlace)} (h : DataW.trod enc Tryz.prog W 0 sp hd fuel 28 [v] = y) (hy : y.isSome = true) : ∃ l, IntsIn W W.heap.size l v ∧ ∀ x ∈ l, W64 x := by
  obtain ⟨x, rfl⟩ := Option.isSome_iff_exists.1 hy
  obtain ⟨l, hl⟩ : ∃ l, SlIn I64R 1 W W.heap.size l v := open_sl Tryz.underlying28 c3 (by decide) h (fun n cs y b o _ hy hb hr hl => by
    obtain ⟨s, rfl, _, hw⟩ := DataW.trod_int Tryz.underlying3 hy
    exact ⟨s, hr 0 _ rfl, wf64 hw⟩)
  exact ⟨l, i64_ints hl⟩
theorem open_bool {fuel : Nat} {v : Value} {y : Option (DataW H × List MemPlace)} (h : DataW.trod enc Tryz.prog W 0 sp hd fuel 4 [v] = y) (hy : y.isSome = true) : ∃ b, v = .bool b := by
  obtain ⟨x, rfl⟩ := Option.isSome_iff_exists.1 hy
  obtain ⟨n, hc, _⟩ := DataW.trod_bool Tryz.underlying4 h
  exact ⟨n, by simpa using hc⟩

/-- a node whose numbers are numbers of the program -/
def Num64 (n : Dn) : Prop := W64 n.fact ∧ (∀ x ∈ n.cuts, W64 x) ∧ ∀ x ∈ n.kids, W64 x
def DnR64 : CellRel Dn := fun w B x b o => DnR w B x b o ∧ Num64 x

theorem open_nodes {fuel : Nat} {v : Value} {y : Option (DataW H × List MemPlace)} (h : DataW.trod enc Tryz.prog W 0 sp hd fuel 32 [v] = y) (hy : y.isSome = true) : ∃ t, SlIn DnR64 4 W W.heap.size t v := by
  obtain ⟨x, rfl⟩ := Option.isSome_iff_exists.1 hy
  refine open_sl Tryz.underlying32 cNode (by decide) h (fun n cs y b o _ hy hb hr hl => ?_)
  obtain ⟨xs, n, hf, _, _, hxs, hx⟩ := DataW.trod_struct Tryz.underlying56 hy
  have hxs : xs.length = 4 := hxs
  obtain ⟨v0, v1, v2, v3, rfl⟩ := len4 hl
  have f0 := hx 0 _ rfl
  have f1 := hx 1 _ rfl
  have f2 := hx 2 _ rfl
  have f3 := hx 3 _ rfl
  simp only [List.getElem_toArray, List.getElem_cons_zero] at f0
  simp only [List.getElem_toArray, List.getElem_cons_zero, List.getElem_cons_succ] at f1
  simp only [List.getElem_toArray, List.getElem_cons_zero, List.getElem_cons_succ] at f2
  simp only [List.getElem_toArray, List.getElem_cons_zero, List.getElem_cons_succ] at f3
  rw [c3] at f0
  rw [cInts] at f1 f2
  rw [cBool] at f3
  obtain ⟨fc, rfl, o0⟩ := open_n f0 (at_some hxs (by decide))
  obtain ⟨cu, hcu, o1⟩ := open_i64s f1 (at_some hxs (by decide))
  obtain ⟨ki, hki, o2⟩ := open_i64s f2 (at_some hxs (by decide))
  obtain ⟨lf, rfl⟩ := open_bool f3 (at_some hxs (by decide))
  exact ⟨⟨fc, cu, ki, lf⟩, ⟨v1, v2, hr 0 _ rfl, hr 1 _ rfl, hr 2 _ rfl, hr 3 _ rfl, hcu, hki⟩, o0, o1, o2⟩

set_option maxRecDepth 100000 in
theorem arg_dg {r : Reach} {b0 : Nat} {v : Value} {d : DataW H} {ps : List MemPlace} (hval : Value.okWide Tryz.prog W r b0 34 v) (h : DataW.Trod enc Tryz.prog W 0 sp hd 34 v d ps) : ∃ t, DgIn W W.heap.size t v ∧ ∀ n ∈ t, Num64 n := by
  obtain ⟨fuel, hf⟩ := h
  obtain ⟨l, rfl⟩ := okWide_struct Tryz.underlying34 hval
  obtain ⟨ys, n', _, _, hlen, hys, hy⟩ := DataW.trod_struct Tryz.underlying34 hf
  rw [cDg] at hlen
  obtain ⟨v0, l1, rfl, hl1⟩ := peel hlen
  obtain rfl := List.length_eq_zero_iff.1 hl1
  have hys : ys.length = 1 := hys
  have g0 := hy 0 _ rfl
  simp only [List.getElem_toArray, List.getElem_cons_zero] at g0
  rw [cNodes] at g0
  obtain ⟨t, ao, cap, h1, h2, h3, h4⟩ := open_nodes g0 (at_some hys (by decide))
  refine ⟨t, ⟨v0, rfl, ao, cap, h1, h2, h3, fun hne => ?_⟩, fun n hn => ?_⟩
  · obtain ⟨b, o, e1, e2, e3⟩ := h4 hne
    exact ⟨b, o, e1, e2, fun i hi => (e3 i hi).1⟩
  · obtain ⟨j, hj, rfl⟩ := List.getElem_of_mem hn
    obtain ⟨b, o, e1, e2, e3⟩ := h4 (by intro e; rw [e] at hj; cases hj)
    exact (e3 j hj).2
end
end Go.Proofs.YtejbgoigkefnfaaGreatDoor
