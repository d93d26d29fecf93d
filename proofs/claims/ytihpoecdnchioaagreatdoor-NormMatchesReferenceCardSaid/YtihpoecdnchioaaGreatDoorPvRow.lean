/- Rows of provisions of the call's own: a slice built of one provision, appended to a row; what lies there as provisions. No conditions. -/
import Derived.Test.YtihpoecdnchioaaGreatDoorMem2
import Derived.Test.YtihpoecdnchioaaGreatDoorTok
namespace Go.Proofs.YtihpoecdnchioaaGreatDoor
open Go.RowKit

theorem fill_all : ∀ (cells : List Value) (pre : List Value) (zs : List Value), zs.length = cells.length →
    (cells.zipIdx pre.length).foldl (fun (cs : Array Value) (x : Value × Nat) => cs.setIfInBounds (0 + x.2) x.1) (pre ++ zs).toArray = (pre ++ cells).toArray
  | [], pre, zs, h => by
    obtain rfl := List.length_eq_zero_iff.1 h
    rfl
  | c :: cells, pre, z :: zs, h => by
    rw [List.zipIdx_cons, List.foldl_cons]
    have e : (pre ++ z :: zs).toArray.setIfInBounds (0 + pre.length) c = ((pre ++ [c]) ++ zs).toArray := by
      simp [List.set_append_right]
    have e2 : pre.length + 1 = (pre ++ [c]).length := by simp
    show List.foldl _ ((pre ++ z :: zs).toArray.setIfInBounds (0 + pre.length) c) _ = _
    rw [e, e2, fill_all cells (pre ++ [c]) zs (by simpa using h), List.append_assoc]
    rfl

/-- a slice that is built of one element of many cells -/
theorem run_buildSlice_one {P : Program} {t e : TypeId} {i : TypeInfo} {z : Value} (cells : List Value) (ht : P.underlying t = some (.slice e)) (hi : P.info? e = some i) (hs : i.size = cells.length) (hz : i.zero = some z) (hzs : z.cells.size = cells.length)
    (h0 : 0 < cells.length) (hm : cells.length ≤ 1000) (w : World) :
    (Instr.buildSlice t 1 #[(0, .agg cells.toArray)]).run P w = .ok (.slice (some ⟨w.heap.size, 0, none⟩) 1 1) (w.alloc (.cells cells.toArray e)) := by
  have hc : P.cellsOf e = cells.length := by unfold Program.cellsOf; rw [hi]; exact hs
  unfold Instr.buildSlice
  have hfl : Instr.fill (fun i => some (i * cells.length, cells.length)) ((Array.range cells.length).map (z.cells[· % z.cells.size]!)) [(0, .agg cells.toArray)] = some cells.toArray := by
    have hl : ((Array.range cells.length).map (z.cells[· % z.cells.size]!)).toList.length = cells.length := by simp
    have h := fill_all cells [] ((Array.range cells.length).map (z.cells[· % z.cells.size]!)).toList hl
    rw [List.nil_append, List.nil_append, Array.toArray_toList] at h
    unfold Instr.fill
    have e : (Value.agg cells.toArray).cells = cells.toArray := rfl
    simp only [e, Nat.zero_mul, List.size_toArray, Array.size_map, Array.size_range]
    rw [if_neg (by simp)]
    unfold Instr.fill
    have e3 : cells.toArray.zipIdx = (cells.zipIdx 0).toArray := by simp
    rw [e3]
    congr 1
    rw [List.foldl_toArray']
    · exact h
    · simp
  simp only [Sem.run_bind, run_underlying ht, Result.andThen_ok, Nat.one_mul]
  rw [run_sizeOf w hi, hc]
  simp only [Result.andThen_ok]
  rw [if_neg (by omega), if_neg (by omega)]
  simp [zeroValue, typeInfo, hi, hz, hfl, newRow, newObj]
  rfl

theorem pvInfo : (Tryz.prog.info? 49).map (fun i => (i.size, i.zero.map (·.cells.size), i.bytes)) = some (23, some 23, 312) := by kernel_rfl
theorem pv_info : ∃ i z, Tryz.prog.info? 49 = some i ∧ i.size = 23 ∧ i.zero = some z ∧ z.cells.size = 23 ∧ i.bytes = 312 := by
  have h := pvInfo
  cases hi : Tryz.prog.info? 49 with
  | none => rw [hi] at h; cases h
  | some i =>
    rw [hi] at h
    simp only [Option.map_some, Option.some.injEq, Prod.mk.injEq] at h
    obtain ⟨h1, h2, h3⟩ := h
    obtain ⟨z, hz, hz2⟩ := Option.map_eq_some_iff.1 h2
    exact ⟨i, z, rfl, h1, hz, hz2, h3⟩

/-- a slice that is built of one provision -/
theorem run_buildSlice_pv (p : Pv) (ak : Option Addr) (ck : Nat) (ae : Option Addr) (ce : Nat) (w : World) :
    (Instr.buildSlice 25 1 #[(0, .agg (pvC p ak ck ae ce).toArray)]).run Tryz.prog w = .ok (.slice (some ⟨w.heap.size, 0, none⟩) 1 1) (w.alloc (.cells (pvC p ak ck ae ce).toArray 49)) := by
  obtain ⟨i, z, hi, hs, hz, hzs, _⟩ := pv_info
  exact run_buildSlice_one (pvC p ak ck ae ce) Tryz.underlying25 hi hs hz hzs (by rw [pvC_len]; decide) (by rw [pvC_len]; decide) w

mutual
theorem Fo.In.mono {w : World} {B B' : Nat} (hb : B ≤ B') : ∀ (f : Fo) (v : Value), f.In w B v → f.In w B' v
  | .mk op nm c n ks, v => by
    rintro ⟨ao, cap, hv, h1, h2, h3, h4, h5, h6, h7⟩
    refine ⟨ao, cap, hv, h1, h2, h3, h4, h5, h6, fun hne => ?_⟩
    obtain ⟨b, off, ha, hlt, hL⟩ := h7 hne
    exact ⟨b, off, ha, by omega, Fo.InL.mono hb ks off hL⟩
theorem Fo.InL.mono {w : World} {B B' b : Nat} (hb : B ≤ B') : ∀ (ks : List Fo) (off : Nat), Fo.InL w B ks b off → Fo.InL w B' ks b off
  | [], _ => fun _ => trivial
  | k :: ks, off => by
    rintro ⟨⟨v0, v1, v2, v3, v4, c0, c1, c2, c3, c4, hk⟩, hks⟩
    exact ⟨⟨v0, v1, v2, v3, v4, c0, c1, c2, c3, c4, Fo.In.mono hb k _ hk⟩, Fo.InL.mono hb ks (off + 5) hks⟩
end
theorem PvR.mono : PvR.Mono := by
  rintro w B B' x b o hb ⟨ak, ck, ae, ce, hr, hf, he, r⟩
  exact ⟨ak, ck, ae, ce, hr, Fo.In.mono hb _ _ hf, SlIn.mono (OneR.mono _) hb he, r⟩
theorem LawIn.mono {w : World} {B B' : Nat} (hb : B ≤ B') {d : List Fa} {ps : List Pv} {v : Value} (h : LawIn w B d ps v) : LawIn w B' d ps v := by
  obtain ⟨u1, u2, asn, ns, cs, rfl, h1, h2⟩ := h
  exact ⟨u1, u2, asn, ns, cs, rfl, h1.mono FaR.mono hb, h2.mono PvR.mono hb⟩

/-- a provision and where its kids and exceptions lie -/
structure PvA where
  p : Pv
  ak : Option Addr
  ck : Nat
  ae : Option Addr
  ce : Nat
def PvA.cells (x : PvA) : List Value := pvC x.p x.ak x.ck x.ae x.ce
def PvA.Ok (W : World) (B : Nat) (x : PvA) : Prop :=
  x.p.cond.In W B (.agg #[.int .i64 x.p.cond.op, .string x.p.cond.name, .int .i64 x.p.cond.cmp, .int .i64 x.p.cond.n, .slice x.ak x.p.cond.kids.length x.ck]) ∧ StrsIn W B x.p.except (.slice x.ae x.p.except.length x.ce) ∧ x.p.id.size ≤ maxLen ∧ x.p.name.size ≤ maxLen

theorem pvC_ones (x : Pv) (ak : Option Addr) (ck : Nat) (ae : Option Addr) (ce : Nat) : ∀ u ∈ pvC x ak ck ae ce, u.oneCell' = true := fun u hu => by
  have h := pvC_one x ak ck ae ce
  rw [Array.all_eq_true_iff_forall_mem] at h
  exact h u (by simpa using hu)

theorem flat_get : ∀ (xs : List PvA) (i j : Nat) (hi : i < xs.length), j < 23 → (xs.flatMap PvA.cells)[i * 23 + j]? = xs[i].cells[j]?
  | x :: xs, 0, j, _, hj => by
    rw [List.flatMap_cons, List.getElem?_append_left (by show _ < 23; omega)]
    simp
  | x :: xs, i + 1, j, hi, hj => by
    rw [List.flatMap_cons, List.getElem?_append_right (by show 23 ≤ _; omega), show (i + 1) * 23 + j - x.cells.length = i * 23 + j by show _ - 23 = _; omega, flat_get xs i j (by simpa using hi) hj]
    simp

theorem own_pvs {W : World} {base : Nat} {v : Value} {xs : List PvA} (h : W.ownsRow base 49 23 v xs.length (xs.flatMap PvA.cells)) {B : Nat} (hB : W.heap.size ≤ B) (hx : ∀ x ∈ xs, x.Ok W B) : SlIn PvR 23 W B (xs.map (·.p)) v := by
  rcases h.2 with ⟨rfl, h0⟩ | ⟨g, cap, cur, rfl, _, hg, h1, h2, h3, h4⟩
  · have : xs = [] := List.length_eq_zero_iff.1 h0
    subst this
    exact ⟨none, 0, rfl, Nat.zero_le _, Nat.zero_le _, fun e => absurd rfl e⟩
  · refine ⟨some ⟨g, 0, none⟩, cap, by rw [List.length_map], by rw [List.length_map]; exact h1, h2, fun _ => ⟨g, 0, rfl, Nat.lt_of_lt_of_le (Array.getElem?_eq_some_iff.1 hg).1 hB, fun i hi => ?_⟩⟩
    have hi' : i < xs.length := by simpa using hi
    obtain ⟨k1, k2, k3, k4⟩ := hx xs[i] (List.getElem_mem hi')
    rw [List.getElem_map]
    refine ⟨xs[i].ak, xs[i].ck, xs[i].ae, xs[i].ce, fun j u hj => ?_, k1, k2, k3, k4⟩
    have hj' : j < 23 := by
      rcases Nat.lt_or_ge j 23 with h | h
      · exact h
      · rw [List.getElem?_eq_none (by exact h)] at hj; cases hj
    have h5 : (cur.toList.take (xs.length * 23))[i * 23 + j]? = (xs.flatMap PvA.cells)[i * 23 + j]? := by rw [h4]
    rw [List.getElem?_take_of_lt (by omega), flat_get xs i j hi' hj'] at h5
    show W.cell? ⟨g, 0 + i * 23 + j, none⟩ = some u
    simp only [World.cell?, hg]
    rw [Nat.zero_add]
    have : cur[i * 23 + j]? = some u := by
      rw [← Array.getElem?_toList, h5]; exact hj
    simpa using this

theorem Blk.grown {W W' : World} {b : Nat} {t : TypeId} {cs : Array Value} (h : Blk W b t cs) {row : Option Nat} (hg : W.grownBy W' row) (hne : some b ≠ row) : Blk W' b t cs := (hg.block b h.lt hne).trans h
theorem own_far2 {W : World} {base e size : Nat} {v : Value} {n : Nat} {xs : List Value} (h : W.ownsRow base e size v n xs) {b : Nat} (hb : b < base) : v.ownBlock = none ∨ v.ownBlock ≠ some b := by
  rcases h.2 with ⟨rfl, _⟩ | ⟨g, cap, cur, rfl, hg, _⟩
  · exact .inl rfl
  · right; simp only [Value.ownBlock]; intro e; simp at e; omega
/-- rows of two types do not lie in one block -/
theorem own_types {W : World} {b1 b2 e1 e2 s1 s2 n1 n2 : Nat} {v1 v2 : Value} {x1 x2 : List Value} (h1 : W.ownsRow b1 e1 s1 v1 n1 x1) (h2 : W.ownsRow b2 e2 s2 v2 n2 x2) (he : e1 ≠ e2) : v1.ownBlock = none ∨ v1.ownBlock ≠ v2.ownBlock := by
  rcases h1.2 with ⟨rfl, _⟩ | ⟨g, cap, cur, rfl, _, hg, _⟩
  · exact .inl rfl
  · right
    rcases h2.2 with ⟨rfl, _⟩ | ⟨g', cap', cur', rfl, _, hg', _⟩
    · simp [Value.ownBlock]
    · simp only [Value.ownBlock]
      intro e
      simp at e; subst e
      rw [hg] at hg'; cases hg'; exact he rfl

theorem own_block {W W' : World} {base e size n : Nat} {v : Value} {xs : List Value} (h : W.ownsRow base e size v n xs) (hb : ∀ g, v.ownBlock = some g → W'.heap[g]? = W.heap[g]?) : W'.ownsRow base e size v n xs := by
  refine ⟨h.1, ?_⟩
  rcases h.2 with h0 | ⟨g, cap, cur, rfl, h1, h2, h3⟩
  · exact .inl h0
  · exact .inr ⟨g, cap, cur, rfl, h1, (hb g rfl).trans h2, h3⟩
theorem own_shape {W : World} {base e size n : Nat} {v : Value} {xs : List Value} (h : W.ownsRow base e size v n xs) : ∃ a m c, v = .slice a m c := by
  rcases h.2 with ⟨rfl, _⟩ | ⟨g, cap, cur, rfl, _⟩
  · exact ⟨_, _, _, rfl⟩
  · exact ⟨_, _, _, rfl⟩
theorem own_under {W W' : World} {base e size n : Nat} {v : Value} {xs : List Value} (h : W.ownsRow base e size v n xs) (hb : Below W.heap.size W W') : W'.ownsRow base e size v n xs :=
  own_block h fun g hg => hb.block g (h.lt g hg).2
theorem own_struck {W : World} {base e size n : Nat} {v : Value} {xs : List Value} (h : W.ownsRow base e size v n xs) (a : Addr) (u : Value) (hne : ∀ g, v.ownBlock = some g → g ≠ a.block) : (W.setCell a u).ownsRow base e size v n xs :=
  own_block h fun g hg => Below.heap_setCell _ _ _ g (hne g hg)

theorem range_set {W : World} {b o : Nat} {cells : List Value} {i : Nat} {v : Value} (h : W.rangeAt b o cells) (hi : i < cells.length) : (W.setCell ⟨b, o + i, none⟩ v).rangeAt b o (cells.set i v) := by
  intro j u hj
  by_cases e : j = i
  · subst e
    rw [List.getElem?_set_self hi] at hj
    cases hj
    have hc := h j _ (List.getElem?_eq_getElem hi)
    exact World.cell?_setCell_same _ _ _ hc
  · rw [List.getElem?_set_ne (Ne.symm e)] at hj
    rw [World.cell?_setCell_other _ _ _ _ (fun e2 => by simp at e2)]
    exact h j u hj
theorem range_block {W W' : World} {b o : Nat} {cells : List Value} (h : W.rangeAt b o cells) (hb : W'.heap[b]? = W.heap[b]?) : W'.rangeAt b o cells := fun j v hj => by
  rw [World.cell?_of_block (a := ⟨b, o + j, none⟩) hb]; exact h j v hj
theorem frozen_block {W W' : World} {b : Nat} (h : ∀ j, W.frozen? ⟨b, j, none⟩ = false) (hb : W'.heap[b]? = W.heap[b]?) : ∀ j, W'.frozen? ⟨b, j, none⟩ = false := fun j => by
  rw [World.frozen?_of_block (a := ⟨b, j, none⟩) hb]; exact h j

/-- a law that is being made in the block behind wb: its row of provisions is the call's own -/
structure LawB (w wb W : World) (u1 : Value) (qs : List Pv) (bv : Value) (xs : List PvA) : Prop where
  row : W.ownsRow (wb.heap.size + 1) 49 23 bv xs.length (xs.flatMap PvA.cells)
  pvs : xs.map (·.p) = qs
  ok : ∀ x ∈ xs, x.Ok w w.heap.size
  blk : Blk W wb.heap.size 28 #[u1, bv, .slice none 0 0]
  bel : Below wb.heap.size wb W

theorem PvA.Ok.up {W W' : World} {B : Nat} {x : PvA} (h : x.Ok W B) (hb : Below B W W') : x.Ok W' B := ⟨h.1.below hb, StrsIn.below hb h.2.1, h.2.2⟩
theorem PvA.Ok.mono {W : World} {B B' : Nat} {x : PvA} (h : x.Ok W B) (hb : B ≤ B') : x.Ok W B' := ⟨Fo.In.mono hb _ _ h.1, SlIn.mono (OneR.mono _) hb h.2.1, h.2.2⟩

section
variable {w wb W : World} {u1 bv : Value} {qs : List Pv} {xs : List PvA}
theorem LawB.start (w wb : World) (u1 : Value) : LawB w wb (wb.alloc (.cells #[u1, .slice none 0 0, .slice none 0 0] 28)) u1 [] (.slice none 0 0) [] :=
  ⟨⟨rfl, .inl ⟨rfl, rfl⟩⟩, rfl, fun _ h => (by cases h), Blk.new wb _ _, (Below.refl _ _).alloc (Nat.le_refl _) _⟩
theorem LawB.len (h : LawB w wb W u1 qs bv xs) : xs.length = qs.length := by
  have := congrArg List.length h.pvs
  simpa using this
theorem LawB.lt (h : LawB w wb W u1 qs bv xs) : wb.heap.size < W.heap.size := h.blk.lt
theorem LawB.own_lt (h : LawB w wb W u1 qs bv xs) : ∀ g, bv.ownBlock = some g → wb.heap.size < g ∧ g < W.heap.size := fun g hg => by
  have := h.row.lt g hg; omega
theorem LawB.below (h : LawB w wb W u1 qs bv xs) {W' : World} (hb : Below W.heap.size W W') : LawB w wb W' u1 qs bv xs :=
  ⟨own_under h.row hb, h.pvs, h.ok, h.blk.below hb, h.bel.trans (hb.mono (Nat.le_of_lt h.lt))⟩
/-- another row of the call's own has grown -/
theorem LawB.grown (h : LawB w wb W u1 qs bv xs) {W' : World} {row : Option Nat} (hg : W.grownBy W' row) (hr : ∀ g, row = some g → wb.heap.size < g) (hne : bv.ownBlock = none ∨ bv.ownBlock ≠ row) : LawB w wb W' u1 qs bv xs :=
  ⟨h.row.kept hg hne, h.pvs, h.ok, h.blk.grown hg (fun e => by have := hr _ e.symm; omega), h.bel.grown hg (Nat.le_of_lt h.lt) (fun g e => Nat.le_of_lt (hr g e))⟩
/-- a cell of another block is turned -/
theorem LawB.struck (h : LawB w wb W u1 qs bv xs) (a : Addr) (u : Value) (ha : wb.heap.size < a.block) (hne : ∀ g, bv.ownBlock = some g → g ≠ a.block) : LawB w wb (W.setCell a u) u1 qs bv xs :=
  ⟨own_struck h.row a u hne, h.pvs, h.ok, (Below.heap_setCell _ _ _ _ (by omega)).trans h.blk, h.bel.setCell (Nat.le_of_lt ha) u⟩
/-- a provision more -/
theorem LawB.push (h : LawB w wb W u1 qs bv xs) (x : PvA) (hx : x.Ok w w.heap.size) {cs : Array Value} {t : TypeId} {w9 : World} {v9 : Value} (hown : w9.ownsRow (wb.heap.size + 1) 49 23 v9 (xs.length + 1) (xs.flatMap PvA.cells ++ x.cells))
    (hg : (W.alloc (.cells cs t)).grownBy w9 bv.ownBlock) : LawB w wb (w9.setCell ⟨wb.heap.size, 1, none⟩ v9) u1 (qs ++ [x.p]) v9 (xs ++ [x]) := by
  have h1 : LawB w wb (W.alloc (.cells cs t)) u1 qs bv xs := h.below ((Below.refl _ _).alloc (Nat.le_refl _) _)
  have hb : ∀ g, bv.ownBlock = some g → wb.heap.size < g := fun g e => (h.own_lt g e).1
  have hblk := h1.blk.grown hg (fun e => by have := hb _ e.symm; omega)
  refine ⟨?_, by rw [List.map_append, h.pvs]; rfl, fun y hy => ?_, ?_, (h1.bel.grown hg (Nat.le_of_lt h1.lt) (fun g e => Nat.le_of_lt (hb g e))).setCell (Nat.le_refl _) v9⟩
  · rw [List.length_append, List.flatMap_append, List.flatMap_cons, List.flatMap_nil, List.append_nil]
    exact own_struck hown _ v9 (fun g e => by have := (hown.lt g e).1; show g ≠ wb.heap.size; omega)
  · rcases List.mem_append.1 hy with hy | hy
    · exact h.ok y hy
    · rw [List.mem_singleton] at hy; rw [hy]; exact hx
  · exact hblk.set 1 v9
/-- the law as it lies -/
theorem law_row {base : Nat} (h : W.ownsRow base 49 23 bv xs.length (xs.flatMap PvA.cells)) (hx : ∀ x ∈ xs, x.Ok w w.heap.size) (hw : Below w.heap.size w W) {d : List Fa} (hd : SlIn FaR 4 w w.heap.size d u1) : LawIn W W.heap.size d (xs.map (·.p)) (.agg #[u1, bv, .slice none 0 0]) :=
  ⟨u1, bv, none, 0, 0, rfl, (hd.below FaR.kept hw).mono FaR.mono hw.size, own_pvs h (Nat.le_refl _) (fun x hm => ((hx x hm).up hw).mono hw.size)⟩
theorem LawB.law (h : LawB w wb W u1 qs bv xs) (hw : Below w.heap.size w W) {d : List Fa} (hd : SlIn FaR 4 w w.heap.size d u1) : LawIn W W.heap.size d qs (.agg #[u1, bv, .slice none 0 0]) := by
  have hp := law_row h.row h.ok hw hd
  rwa [h.pvs] at hp
end

end Go.Proofs.YtihpoecdnchioaaGreatDoor
