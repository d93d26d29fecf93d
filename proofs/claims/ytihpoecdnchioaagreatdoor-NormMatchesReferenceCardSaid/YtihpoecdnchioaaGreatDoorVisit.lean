/- The walk of the closure of (*norm.net).groups: a visit of the search for circles. A bound on the number of provisions. -/
import Derived.Test.YtihpoecdnchioaaGreatDoorSort
namespace Go.Proofs.YtihpoecdnchioaaGreatDoor
open Go.RowKit Tj

theorem boxes {w0 W : World} {H nb n : Nat} {rows : List (List Nat)} (e : TEnv w0 H nb n rows) (f : Fr w0 H W) :
    W.cell? ⟨H + 6, 0, none⟩ = some (.map (some (H + 4))) ∧ W.cell? ⟨H + 5, 0, none⟩ = some (.map (some (H + 3))) ∧ W.cell? ⟨H + 8, 0, none⟩ = some (.map (some (H + 7))) ∧ W.cell? ⟨H, 0, none⟩ = some (.pointer (some ⟨nb, 0, none⟩)) ∧
    W.cell? ⟨H + 9, 0, none⟩ = some (.func (.func 53) #[] #[.pointer (some ⟨H + 6, 0, none⟩), .pointer (some ⟨H + 5, 0, none⟩), .pointer (some ⟨H + 2, 0, none⟩), .pointer (some ⟨H + 8, 0, none⟩), .pointer (some ⟨H, 0, none⟩), .pointer (some ⟨H + 9, 0, none⟩), .pointer (some ⟨H + 1, 0, none⟩)]) :=
  ⟨(f.blk e.num (by omega)).cell 0, (f.blk e.low (by omega)).cell 0, (f.blk e.on (by omega)).cell 0, (f.blk e.net (by omega)).cell 0, (f.blk e.vis (by omega)).cell 0⟩

theorem MapInt.key : KeyLaw (Value.int .i64) Tryz.prog 3 := keyInt Tryz.underlying3

/-- behind the first three statements -/
theorem push_tst {w0 W W1 W2 w1 w3 : World} {H : Nat} {G : Nat → List Nat} {s : TS} {i gg cap : Nat} {v u : Value} {vals : List Value} {lL : List (Int × Int)} {lO : List (Int × Bool)} (hi : i ∉ s.vis) (_hsub : ∀ x ∈ s.stack, x ∈ s.vis)
    (f : Fr w0 H W) (hn1 : MapIs (Value.int .i64) (Value.int .i64) W1 (H + 4) (ins (numF 0 s.vis) (i : Int) (s.vis.length : Int))) (hu1 : Upd (H + 4) W W1)
    (_hl : MapIs (Value.int .i64) (Value.int .i64) W (H + 3) lL) (hll : ∀ x ∈ s.vis, lL.lookup (x : Int) = some (s.low x : Int)) (hl2 : MapIs (Value.int .i64) (Value.int .i64) W2 (H + 3) (ins lL (i : Int) (s.vis.length : Int))) (hu2 : Upd (H + 3) W1 W2)
    (_ho : MapIs (Value.int .i64) Value.bool W (H + 7) lO) (hlo : ∀ x : Nat, (lO.lookup (x : Int)).getD false = decide (x ∈ s.stack))
    (hs : StkIs W H s.stack v) (hou : OutIs W H (outL G s.comps) u vals) (hdis : ∀ g ∈ vals, g.ownBlock = none ∨ g.ownBlock ≠ v.ownBlock)
    (hg : (W2.alloc (.cells #[.int .i64 (i : Int)] 3)).drew.grownBy w1 v.ownBlock) (hown1 : w1.ownsRow (H + 10) 3 1 (.slice (some ⟨gg, 0, none⟩) (s.stack.length + 1) cap) (s.stack.length + 1) (s.stack.map nV ++ [.int .i64 (i : Int)]))
    (hat : v.ownBlock = some gg ∨ gg = W2.heap.size + 1)
    (ho3 : MapIs (Value.int .i64) Value.bool w3 (H + 7) (ins lO (i : Int) true)) (hu3 : Upd (H + 7) (w1.setCell ⟨H + 2, 0, none⟩ (.slice (some ⟨gg, 0, none⟩) (s.stack.length + 1) cap)) w3) : TSt w0 H G (s.push i) w3 := by
  have g1 := grown_of_upd hu1
  have g2 := grown_of_upd hu2
  have f2 := (f.grown g1 (fun b e => by cases e; omega)).grown g2 (fun b e => by cases e; omega)
  have ga := World.grownBy_alloc W2 (.cells #[.int .i64 (i : Int)] 3) none
  have s2 := (hs.grown g1 (by simp) (own_far2 hs.own (by omega))).grown g2 (by simp) (own_far2 hs.own (by omega))
  have fv : ∀ b, v.ownBlock = some b → H + 10 ≤ b := fun b e => by
    rcases hs.own.2 with ⟨rfl, _⟩ | ⟨g, c, cur, rfl, hgb, _⟩
    · simp [Value.ownBlock] at e
    · have : g = b := Option.some.inj e; omega
  have gs : w1.grownBy (w1.setCell ⟨H + 2, 0, none⟩ (.slice (some ⟨gg, 0, none⟩) (s.stack.length + 1) cap)) (some (H + 2)) := grownBy_setCell' _ _ _
  have g3 := grown_of_upd hu3
  have hgt : gg = gg := rfl
  have hown3 : w3.ownsRow (H + 10) 3 1 (.slice (some ⟨gg, 0, none⟩) (s.stack.length + 1) cap) (s.stack.length + 1) (s.stack.map nV ++ [.int .i64 (i : Int)]) :=
    (hown1.kept gs (own_far2 hown1 (by omega))).kept g3 (own_far2 hown1 (by omega))
  have hgl : H + 10 ≤ gg := by
    rcases hown1.2 with ⟨e, _⟩ | ⟨g, c, cur, e, hgb, _⟩
    · cases e
    · cases e; exact hgb
  have hdr : ∀ {A B : World} {row : Option Nat}, A.grownBy B row → (A.drew).grownBy B row := fun h => ⟨h.os, h.tape, h.output, h.size, h.block⟩
  have gad : W2.grownBy ((W2.alloc (.cells #[.int .i64 (i : Int)] 3)).drew) none := ⟨ga.os, ga.tape, ga.output, ga.size, ga.block⟩
  have fAll : Fr w0 H w3 := (((f2.grown gad (fun b e => by cases e)).grown hg (fun b e => by have := fv b e; omega)).grown gs (fun b e => by cases e; omega)).grown g3 (fun b e => by cases e; omega)
  have hblk : Blk w1 (H + 2) 26 #[v] := (s2.blk.grown gad (by simp)).grown hg (fun e => by have := fv _ e.symm; omega)
  refine ⟨fAll, ?_, ?_, ?_, ?_⟩
  · have h : MapIs (Value.int .i64) (Value.int .i64) w3 (H + 4) (ins (numF 0 s.vis) (i : Int) (s.vis.length : Int)) := ((((hn1.grown g2 (by simp)).grown gad (by simp)).grown hg (fun e => by have := fv _ e.symm; omega)).grown gs (by simp)).grown g3 (by simp)
    have e : ins (numF 0 s.vis) (i : Int) (s.vis.length : Int) = numF 0 (s.push i).vis := by
      rw [ins_none _ _ _ (by rw [numF_lookup, if_neg hi])]
      show _ = numF 0 (s.vis ++ [i])
      rw [numF_snoc, Nat.zero_add]
    rw [e] at h; exact h
  · refine ⟨_, (((hl2.grown gad (by simp)).grown hg (fun e => by have := fv _ e.symm; omega)).grown gs (by simp)).grown g3 (by simp), fun x hx => ?_⟩
    show _ = some ((upd s.low i s.vis.length x : Nat) : Int)
    by_cases h : x = i
    · subst h; rw [lookup_ins_same, upd_same]
    · rw [lookup_ins_other _ _ (by omega), upd_other _ _ h]
      rcases List.mem_append.1 hx with hx | hx
      · exact hll x hx
      · simp at hx; exact absurd hx h
  · refine ⟨_, ho3, fun x => ?_⟩
    show _ = decide (x ∈ s.stack ++ [i])
    by_cases h : x = i
    · subst h; rw [lookup_ins_same]; simp
    · rw [lookup_ins_other _ _ (by omega), hlo]; simp [h]
  · have hub : u.ownBlock = none ∨ u.ownBlock ≠ v.ownBlock := own_types hou.own hs.own (by decide)
    have far : ∀ {b : Nat}, b < H + 10 → ∀ g ∈ vals, g.ownBlock = none ∨ g.ownBlock ≠ some b := by
      intro b hb g hgm
      obtain ⟨k, hk, rfl⟩ := List.getElem_of_mem hgm
      have h := (hou.rows k (by rw [← hou.len]; exact hk)).1
      rw [List.getD_eq_getElem?_getD, List.getElem?_eq_getElem hk] at h
      exact own_far2 h hb
    have o3 := (((((hou.grown g1 (by simp) (own_far2 hou.own (by omega)) (far (by omega))).grown g2 (by simp) (own_far2 hou.own (by omega)) (far (by omega))).grown gad (by simp) (by cases h : u.ownBlock <;> simp) (fun g _ => by cases h : g.ownBlock <;> simp)).grown hg (fun e => by have := fv _ e.symm; omega) hub hdis).grown gs (by simp) (own_far2 hou.own (by omega)) (far (by omega))).grown g3 (by simp) (own_far2 hou.own (by omega)) (far (by omega))
    refine ⟨.slice (some ⟨gg, 0, none⟩) (s.stack.length + 1) cap, u, vals, ⟨?_, ?_⟩, o3, ?_⟩
    · have h := hblk.set 0 (.slice (some ⟨gg, 0, none⟩) (s.stack.length + 1) cap)
      exact Blk.grown (b := H + 2) h g3 (by simp)
    · show w3.ownsRow (H + 10) 3 1 _ (s.stack ++ [i]).length ((s.stack ++ [i]).map nV)
      rw [List.length_append, List.map_append]
      exact hown3
    · intro g hgm
      rcases hat with hat | hat
      · have h := hdis g hgm
        rw [hat] at h; exact h
      · obtain ⟨k, hk, rfl⟩ := List.getElem_of_mem hgm
        have h := (hou.rows k (by rw [← hou.len]; exact hk)).1
        rw [List.getD_eq_getElem?_getD, List.getElem?_eq_getElem hk] at h
        rcases h.2 with ⟨e, _⟩ | ⟨g', c, cur, e, _, hgb, _⟩
        · left; simp only [Option.getD_some] at e; rw [e]; rfl
        · right
          simp only [Option.getD_some] at e
          rw [e]
          intro e2
          have : g' = gg := Option.some.inj e2
          have hlt := (Array.getElem?_eq_some_iff.1 hgb).1
          have := g1.size
          have := g2.size
          omega

/-- a visit: what it asks and what it leaves -/
abbrev VisitOk (w0 : World) (H n : Nat) (rows : List (List Nat)) (N : Nat) : Prop :=
  ∀ (i : Nat) (P : Nat → Prop) (s : TS) (W : World), n ≤ s.vis.length + N → i < n → Pre (edg rows) P i s → (∀ x ∈ s.vis, x < n) → TSt w0 H (edg rows) s W →
    Calls Tryz.prog 53 #[.int .i64 i, .pointer (some ⟨H + 6, 0, none⟩), .pointer (some ⟨H + 5, 0, none⟩), .pointer (some ⟨H + 2, 0, none⟩), .pointer (some ⟨H + 8, 0, none⟩), .pointer (some ⟨H, 0, none⟩), .pointer (some ⟨H + 9, 0, none⟩), .pointer (some ⟨H + 1, 0, none⟩)] W fun e W' => e = .returned (.tuple #[]) ∧ ∃ s', Post (edg rows) P i s s' ∧ (∀ x ∈ s'.vis, x < n) ∧ TSt w0 H (edg rows) s' W'

theorem vis_len {s : TS} {n : Nat} (hn : s.vis.Nodup) (h : ∀ x ∈ s.vis, x < n) : s.vis.length ≤ n := by
  have := List.Nodup.length_le_of_subset hn (l₂ := List.range n) (fun x hx => List.mem_range.2 (h x hx))
  rwa [List.length_range] at this

theorem stk_own {W : World} {H : Nat} {st : List Nat} {v : Value} (h : StkIs W H st v) : ∀ b, v.ownBlock = some b → H + 10 ≤ b := fun b e => by
  rcases h.own.2 with ⟨rfl, _⟩ | ⟨g, c, cur, rfl, hgb, _⟩
  · simp [Value.ownBlock] at e
  · have : g = b := Option.some.inj e; omega
theorem sk1 {W w1 : World} {H : Nat} {st : List Nat} {v : Value} {o : Obj} (h : StkIs W H st v) (hg : (W.alloc o).drew.grownBy w1 v.ownBlock) : Blk w1 (H + 2) 26 #[v] :=
  Blk.grown (W := (W.alloc o).drew) (Blk.alloc h.blk o) hg (fun e => by have := stk_own h _ e.symm; omega)
theorem grow1 {W w1 : World} {H : Nat} {st : List Nat} {v : Value} {o : Obj} (h : StkIs W H st v) (hg : (W.alloc o).drew.grownBy w1 v.ownBlock) {b i : Nat} (hb : b < H + 10) (hs : b < W.heap.size) : w1.cell? ⟨b, i, none⟩ = W.cell? ⟨b, i, none⟩ :=
  World.cell?_of_block (a := ⟨b, i, none⟩) ((hg.block b (by show b < (W.alloc o).heap.size; rw [World.size_alloc]; omega) (fun e => by have := stk_own h _ e.symm; omega)).trans (Below.heap_alloc W o b hs))
theorem on1 {W w1 : World} {H : Nat} {st : List Nat} {v : Value} {o : Obj} {l : List (Int × Bool)} (h : StkIs W H st v) (ho : MapIs (Value.int .i64) Value.bool W (H + 7) l) (hg : (W.alloc o).drew.grownBy w1 v.ownBlock) (x : Value) :
    MapIs (Value.int .i64) Value.bool (w1.setCell ⟨H + 2, 0, none⟩ x) (H + 7) l := by
  have hlt := ho.lt
  have h1 : MapIs (Value.int .i64) Value.bool (W.alloc o).drew (H + 7) l := ho.alloc o
  exact (h1.grown hg (fun e => by have := stk_own h _ e.symm; omega)).grown (grownBy_setCell' w1 (H + 2) x) (by simp)

theorem look_on {W : World} {b : Nat} {l : List (Int × Bool)} {st : List Nat} (h : MapIs (Value.int .i64) Value.bool W b l) (hl : ∀ x : Nat, (l.lookup (x : Int)).getD false = decide (x ∈ st)) (x : Nat) :
    (Instr.lookup 71 (.map (some b)) (.int .i64 (x : Int)) false).run Tryz.prog W = .ok (.bool (decide (x ∈ st))) W := by
  have h1 := run_look MapInt.key Tryz.underlying71 zero_bool h (x : Int)
  have h2 := hl x
  cases hx : l.lookup (x : Int) with
  | none => rw [hx] at h1 h2; rw [← h2]; exact h1
  | some y => rw [hx] at h1 h2; rw [← h2]; exact h1
theorem look_low {W : World} {b : Nat} {l : List (Int × Int)} (h : MapIs (Value.int .i64) (Value.int .i64) W b l) {x : Nat} {y : Int} (hl : l.lookup (x : Int) = some y) :
    (Instr.lookup 98 (.map (some b)) (.int .i64 (x : Int)) false).run Tryz.prog W = .ok (.int .i64 y) W := by
  have h1 := run_look MapInt.key Tryz.underlying98 zero_int h (x : Int)
  rw [hl] at h1; exact h1
theorem look_num {W : World} {b : Nat} {vis : List Nat} (h : MapIs (Value.int .i64) (Value.int .i64) W b (numF 0 vis)) {x : Nat} (hx : x ∈ vis) :
    (Instr.lookup 98 (.map (some b)) (.int .i64 (x : Int)) false).run Tryz.prog W = .ok (.int .i64 (vis.idxOf x : Nat)) W :=
  look_low h (by rw [numF_lookup, if_pos hx, Nat.zero_add])
/-- low[i] = v -/
theorem lower_tst {w0 W W' : World} {H : Nat} {G : Nat → List Nat} {s : TS} {lL : List (Int × Int)} {i v : Nat} (hst : TSt w0 H G s W) (hi : i ∈ s.vis) (_hl : MapIs (Value.int .i64) (Value.int .i64) W (H + 3) lL) (hll : ∀ x ∈ s.vis, lL.lookup (x : Int) = some (s.low x : Int))
    (hl' : MapIs (Value.int .i64) (Value.int .i64) W' (H + 3) (ins lL (i : Int) ((min (s.low i) v : Nat) : Int))) (hu : Upd (H + 3) W W') : TSt w0 H G (s.lower i v) W' := by
  obtain ⟨hfr, hnum, _, ⟨lO, hon, honl⟩, vv, u, vals, hstk, hout, hdis⟩ := hst
  have g := grown_of_upd hu
  refine ⟨hfr.grown g (fun b e => by cases e; omega), hnum.grown g (by simp), ⟨_, hl', fun x hx => ?_⟩, ⟨lO, hon.grown g (by simp), honl⟩, vv, u, vals, hstk.grown g (by simp) (own_far2 hstk.own (by omega)), hout.grown g (by simp) (own_far2 hout.own (by omega)) ?_, hdis⟩
  · show _ = some ((upd s.low i (min (s.low i) v) x : Nat) : Int)
    by_cases h : x = i
    · subst h; rw [lookup_ins_same, upd_same]
    · rw [lookup_ins_other _ _ (by omega), upd_other _ _ h]; exact hll x hx
  · intro g hgm
    obtain ⟨k, hk, rfl⟩ := List.getElem_of_mem hgm
    have h := (hout.rows k (by rw [← hout.len]; exact hk)).1
    rw [List.getD_eq_getElem?_getD, List.getElem?_eq_getElem hk] at h
    exact own_far2 h (by omega)

/-- a stack that is cut off -/
theorem own_cut {W : World} {base g cap m : Nat} {l : List Nat} {k : Nat} (h : W.ownsRow base 3 1 (.slice (some ⟨g, 0, none⟩) m cap) m (l.map nV)) (hk : k ≤ l.length) :
    W.ownsRow base 3 1 (.slice (some ⟨g, 0, none⟩) k cap) k ((l.take k).map nV) := by
  have hl := h.1
  rw [List.length_map] at hl
  rcases h.2 with ⟨e, _⟩ | ⟨g', cap', cur, e, h1, h2, h3, h4, h5, h6⟩
  · cases e
  · cases e
    refine ⟨by rw [List.length_map, List.length_take]; omega, .inr ⟨g, cap, cur, rfl, h1, h2, by omega, h4, h5, ?_⟩⟩
    rw [List.map_take, ← h6, List.take_take]
    congr 1; omega

/-- behind the statements that take a group off -/
structure PopSt (w0 : World) (H : Nat) (G : Nat → List Nat) (s sx : TS) (c : List Nat) (gv : Value) (W : World) : Prop where
  fr : Fr w0 H W
  num : MapIs (Value.int .i64) (Value.int .i64) W (H + 4) (numF 0 sx.vis)
  low : ∃ l, MapIs (Value.int .i64) (Value.int .i64) W (H + 3) l ∧ ∀ x ∈ sx.vis, l.lookup (x : Int) = some (sx.low x : Int)
  on : ∃ l, MapIs (Value.int .i64) Value.bool W (H + 7) l ∧ ∀ x : Nat, (l.lookup (x : Int)).getD false = decide (x ∈ s.stack)
  mem : ∃ v u vals, StkIs W H s.stack v ∧ OutIs W H (outL G sx.comps) u vals ∧ (∀ g ∈ vals, g.ownBlock = none ∨ g.ownBlock ≠ v.ownBlock) ∧
    W.ownsRow (H + 10) 3 1 gv c.length (c.map fun x : Nat => iV x) ∧ gv.ownBlock ≠ v.ownBlock ∧ ∀ g ∈ vals, g.ownBlock = none ∨ g.ownBlock ≠ gv.ownBlock

theorem vals_own {W : World} {H : Nat} {outs : List (List Int)} {u : Value} {vals : List Value} (h : OutIs W H outs u vals) {g : Value} (hg : g ∈ vals) : ∃ l : List Int, W.ownsRow (H + 10) 3 1 g l.length (l.map iV) := by
  obtain ⟨k, hk, rfl⟩ := List.getElem_of_mem hg
  have h := (h.rows k (by rw [← h.len]; exact hk)).1
  rw [List.getD_eq_getElem?_getD, List.getElem?_eq_getElem hk] at h
  exact ⟨_, h⟩
theorem own_lt {W : World} {base e size : Nat} {v : Value} {n : Nat} {xs : List Value} (h : W.ownsRow base e size v n xs) {b : Nat} (hb : v.ownBlock = some b) : b < W.heap.size := by
  rcases h.2 with ⟨rfl, _⟩ | ⟨g, cap, cur, rfl, _, hg, _⟩
  · simp [Value.ownBlock] at hb
  · have : g = b := Option.some.inj hb
    subst this; exact (Array.getElem?_eq_some_iff.1 hg).1

theorem pop_st {w0 W w5 w7 : World} {H : Nat} {G : Nat → List Nat} {s sx : TS} {c : List Nat} {g cap : Nat} {u : Value} {vals : List Value} {gv : Value} (hst : TSt w0 H G sx W) (hsk : sx.stack = s.stack ++ c) (hnd : sx.stack.Nodup)
    (hstk : StkIs W H sx.stack (.slice (some ⟨g, 0, none⟩) sx.stack.length cap)) (hout : OutIs W H (outL G sx.comps) u vals) (hdis : ∀ x ∈ vals, x.ownBlock = none ∨ x.ownBlock ≠ some g)
    (hb5 : Below W.heap.size W w5) (hgv : w5.ownsRow (H + 10) 3 1 gv c.length (c.map fun x : Nat => iV x)) (hgg : ∃ gg cc, gv = .slice (some ⟨gg, 0, none⟩) c.length cc ∧ W.heap.size ≤ gg)
    (h7 : (w5.setCell ⟨H + 2, 0, none⟩ (.slice (some ⟨g, 0, none⟩) s.stack.length cap)).grownBy w7 (some (H + 7)))
    (ho7 : ∃ l, MapIs (Value.int .i64) Value.bool w7 (H + 7) l ∧ ∀ x : Nat, (l.lookup (x : Int)).getD false = (decide (x ∈ sx.stack) && !decide (x ∈ c))) : PopSt w0 H G s sx c gv w7 := by
  obtain ⟨hfr, hnum, ⟨lL, hlow, hlowl⟩, _, _⟩ := hst
  have g5 := grown_of_below hb5
  have gs : w5.grownBy (w5.setCell ⟨H + 2, 0, none⟩ (.slice (some ⟨g, 0, none⟩) s.stack.length cap)) (some (H + 2)) := grownBy_setCell' _ _ _
  obtain ⟨gg, cc, rfl, hggl⟩ := hgg
  have hgH : H + 10 ≤ g := by have := stk_own hstk g rfl; exact this
  have hgl := own_lt hstk.own (b := g) rfl
  have hub := own_types hout.own hstk.own (by decide)
  have s5 := hstk.own.kept g5 (by right; simp [Value.ownBlock])
  have s7 : w7.ownsRow (H + 10) 3 1 (.slice (some ⟨g, 0, none⟩) s.stack.length cap) s.stack.length (s.stack.map nV) := by
    have h := own_cut s5 (k := s.stack.length) (by rw [hsk]; simp)
    rw [hsk, List.take_left] at h
    exact (h.kept gs (own_far2 h (by omega))).kept h7 (own_far2 h (by omega))
  have k5 : Blk w5 (H + 2) 26 #[_] := hstk.blk.grown g5 (by simp)
  have hnone : ∀ x : Value, x.ownBlock = none ∨ x.ownBlock ≠ none := fun x => by cases h : x.ownBlock <;> simp
  have far : ∀ {b : Nat}, b < H + 10 → ∀ x ∈ vals, x.ownBlock = none ∨ x.ownBlock ≠ some b := fun hb x hx => by
    obtain ⟨l, hl⟩ := vals_own hout hx; exact own_far2 hl hb
  have o7 := ((hout.grown g5 (by simp) (hnone _) (fun x _ => hnone x)).grown gs (by simp) (own_far2 hout.own (by omega)) (far (by omega))).grown h7 (by simp) (own_far2 hout.own (by omega)) (far (by omega))
  have hg7 := (hgv.kept gs (own_far2 hgv (by omega))).kept h7 (own_far2 hgv (by omega))
  refine ⟨((hfr.grown g5 (fun b e => by cases e)).grown gs (fun b e => by cases e; omega)).grown h7 (fun b e => by cases e; omega), ((hnum.grown g5 (by simp)).grown gs (by simp)).grown h7 (by simp),
    ⟨lL, ((hlow.grown g5 (by simp)).grown gs (by simp)).grown h7 (by simp), hlowl⟩, ?_, _, u, vals, ⟨?_, s7⟩, o7, hdis, hg7, ?_, ?_⟩
  · obtain ⟨l, h1, h2⟩ := ho7
    refine ⟨l, h1, fun x => ?_⟩
    rw [h2, hsk]
    rw [hsk, List.nodup_append] at hnd
    by_cases hx : x ∈ s.stack
    · have : x ∉ c := fun e => hnd.2.2 x hx x e rfl
      simp [hx, this]
    · simp [hx]
  · have h := k5.set 0 (.slice (some ⟨g, 0, none⟩) s.stack.length cap)
    exact Blk.grown (b := H + 2) h h7 (by simp)
  · simp only [Value.ownBlock]; intro e; simp at e; omega
  · intro x hx
    obtain ⟨l, hl⟩ := vals_own hout hx
    cases hb : x.ownBlock with
    | none => exact .inl rfl
    | some b =>
      right
      have := own_lt hl hb
      simp only [Value.ownBlock]; intro e; simp at e; omega

theorem outL_snoc (G : Nat → List Nat) (comps : List (List Nat)) (c : List Nat) : outL G (comps ++ [c]) = outL G comps ++ (if nontriv G c then [(c.map fun x : Nat => (x : Int)).mergeSort fun x y => decide (x ≤ y)] else []) := by
  unfold outL
  rw [List.filter_append, List.map_append]
  congr 1
  cases h : nontriv G c <;> simp [h]

theorem pop_quiet {w0 : World} {H : Nat} {G : Nat → List Nat} {s sx : TS} {c : List Nat} {gv : Value} {W : World} (h : PopSt w0 H G s sx c gv W) (hn : nontriv G c = false) : TSt w0 H G (sx.pop s.stack c) W := by
  obtain ⟨h1, h2, h3, h4, v, u, vals, h5, h6, h7, _⟩ := h
  refine ⟨h1, h2, h3, h4, v, u, vals, h5, ?_, h7⟩
  show OutIs W H (outL G (sx.comps ++ [c])) u vals
  rw [outL_snoc, hn]; simpa using h6

theorem pop_told {w0 w7 w8 w9 : World} {H : Nat} {G : Nat → List Nat} {s sx : TS} {c : List Nat} {gv v u : Value} {vals : List Value} {gu cu : Nat} (hn : nontriv G c = true)
    (hfr : Fr w0 H w7) (hnum : MapIs (Value.int .i64) (Value.int .i64) w7 (H + 4) (numF 0 sx.vis)) (hlow : ∃ l, MapIs (Value.int .i64) (Value.int .i64) w7 (H + 3) l ∧ ∀ x ∈ sx.vis, l.lookup (x : Int) = some (sx.low x : Int))
    (hon : ∃ l, MapIs (Value.int .i64) Value.bool w7 (H + 7) l ∧ ∀ x : Nat, (l.lookup (x : Int)).getD false = decide (x ∈ s.stack))
    (hstk : StkIs w7 H s.stack v) (hout : OutIs w7 H (outL G sx.comps) u vals) (hdis : ∀ g ∈ vals, g.ownBlock = none ∨ g.ownBlock ≠ v.ownBlock)
    (hgv : w7.ownsRow (H + 10) 3 1 gv c.length (c.map fun x : Nat => iV x)) (hgne : gv.ownBlock ≠ v.ownBlock) (hdis2 : ∀ g ∈ vals, g.ownBlock = none ∨ g.ownBlock ≠ gv.ownBlock)
    (hg8 : w7.grownBy w8 gv.ownBlock) (hgv8 : w8.ownsRow (H + 10) 3 1 gv c.length (((c.map fun x : Nat => (x : Int)).mergeSort fun x y => decide (x ≤ y)).map iV))
    (hg9 : (w8.alloc (.cells #[gv] 26)).grownBy w9 u.ownBlock) (hown9 : w9.ownsRow (H + 10) 26 1 (.slice (some ⟨gu, 0, none⟩) (vals.length + 1) cu) (vals.length + 1) (vals ++ [gv])) :
    TSt w0 H G (sx.pop s.stack c) (w9.setCell ⟨H + 1, 0, none⟩ (.slice (some ⟨gu, 0, none⟩) (vals.length + 1) cu)) := by
  have ga := World.grownBy_alloc w8 (.cells #[gv] 26) none
  have gs : w9.grownBy (w9.setCell ⟨H + 1, 0, none⟩ (.slice (some ⟨gu, 0, none⟩) (vals.length + 1) cu)) (some (H + 1)) := grownBy_setCell' _ _ _
  have ob : ∀ {W : World} {e n : Nat} {x : Value} {xs : List Value}, W.ownsRow (H + 10) e 1 x n xs → ∀ b, x.ownBlock = some b → H + 10 ≤ b := by
    intro W e n x xs h b hb
    rcases h.2 with ⟨rfl, _⟩ | ⟨g, cc, cur, rfl, hg, _⟩
    · simp [Value.ownBlock] at hb
    · have : g = b := Option.some.inj hb; omega
  have og := ob hgv
  have ou := ob hout.own
  have hnone : ∀ x : Value, x.ownBlock = none ∨ x.ownBlock ≠ none := fun x => by cases h : x.ownBlock <;> simp
  have lt8 : ∀ b, b < H + 10 → some b ≠ gv.ownBlock := fun b hb e => by have := og b e.symm; omega
  have lt9 : ∀ b, b < H + 10 → some b ≠ u.ownBlock := fun b hb e => by have := ou b e.symm; omega
  have far : ∀ {b : Nat}, b < H + 10 → ∀ x ∈ vals, x.ownBlock = none ∨ x.ownBlock ≠ some b := fun hb x hx => by
    obtain ⟨l, hl⟩ := vals_own hout hx; exact own_far2 hl hb
  have MAP : ∀ {κ ν : Type} {ek : κ → Value} {ev : ν → Value} {b : Nat} {l : List (κ × ν)}, b < H + 10 → b ≠ H + 1 → MapIs ek ev w7 b l → MapIs ek ev (w9.setCell ⟨H + 1, 0, none⟩ (.slice (some ⟨gu, 0, none⟩) (vals.length + 1) cu)) b l := fun hb hne h =>
    (((h.grown hg8 (lt8 _ hb)).grown ga (by simp)).grown hg9 (lt9 _ hb)).grown gs (by simp; omega)
  obtain ⟨lL, hl1, hl2⟩ := hlow
  obtain ⟨lO, ho1, ho2⟩ := hon
  have hvu : v.ownBlock = none ∨ v.ownBlock ≠ u.ownBlock := own_types hstk.own hout.own (by decide)
  have hgu : gv.ownBlock = none ∨ gv.ownBlock ≠ u.ownBlock := own_types hgv hout.own (by decide)
  refine ⟨(((hfr.grown hg8 (fun b e => by have := og b e; omega)).grown ga (fun b e => by cases e)).grown hg9 (fun b e => by have := ou b e; omega)).grown gs (fun b e => by cases e; omega), MAP (by omega) (by omega) hnum, ⟨lL, MAP (by omega) (by omega) hl1, hl2⟩, ⟨lO, MAP (by omega) (by omega) ho1, ho2⟩,
    v, .slice (some ⟨gu, 0, none⟩) (vals.length + 1) cu, vals ++ [gv], ?_, ⟨?_, ?_, ?_, ?_⟩, ?_⟩
  · have hvg : v.ownBlock = none ∨ v.ownBlock ≠ gv.ownBlock := .inr (Ne.symm hgne)
    exact (((hstk.grown hg8 (lt8 _ (by omega)) hvg).grown ga (by simp) (hnone _)).grown hg9 (lt9 _ (by omega)) hvu).grown gs (by simp) (own_far2 hstk.own (by omega))
  · have h := ((hout.blk.grown hg8 (lt8 _ (by omega))).grown ga (by simp)).grown hg9 (lt9 _ (by omega))
    exact h.set 0 _
  · rw [List.length_append]
    exact hown9.kept gs (own_far2 hown9 (by omega))
  · show (vals ++ [gv]).length = (outL G (sx.comps ++ [c])).length
    rw [outL_snoc, hn, if_pos rfl, List.length_append, List.length_append, hout.len]; rfl
  · intro k hk
    change k < (outL G (sx.comps ++ [c])).length at hk
    show (w9.setCell ⟨H + 1, 0, none⟩ _).ownsRow (H + 10) 3 1 _ ((outL G (sx.comps ++ [c])).getD k []).length (((outL G (sx.comps ++ [c])).getD k []).map iV) ∧ (outL G (sx.comps ++ [c])).getD k [] ≠ []
    rw [outL_snoc, hn, if_pos rfl] at hk ⊢
    rw [List.length_append, List.length_singleton] at hk
    rcases Nat.lt_or_ge k (outL G sx.comps).length with hlt | hge
    · have e1 : (outL G sx.comps ++ [(c.map fun x : Nat => (x : Int)).mergeSort fun x y => decide (x ≤ y)]).getD k [] = (outL G sx.comps).getD k [] := by
        rw [List.getD_eq_getElem?_getD, List.getD_eq_getElem?_getD, List.getElem?_append_left hlt]
      have e2 : (vals ++ [gv]).getD k undef = vals.getD k undef := by
        rw [List.getD_eq_getElem?_getD, List.getD_eq_getElem?_getD, List.getElem?_append_left (by rw [hout.len]; exact hlt)]
      rw [e1, e2]
      obtain ⟨r1, r2⟩ := hout.rows k hlt
      have hm : vals.getD k undef ∈ vals := by rw [List.getD_eq_getElem?_getD, List.getElem?_eq_getElem (by rw [hout.len]; exact hlt)]; exact List.getElem_mem _
      exact ⟨(((r1.kept hg8 (hdis2 _ hm)).kept ga (hnone _)).kept hg9 (own_types r1 hout.own (by decide))).kept gs (own_far2 r1 (by omega)), r2⟩
    · have hk' : k = (outL G sx.comps).length := by omega
      subst hk'
      have e1 : (outL G sx.comps ++ [(c.map fun x : Nat => (x : Int)).mergeSort fun x y => decide (x ≤ y)]).getD (outL G sx.comps).length [] = (c.map fun x : Nat => (x : Int)).mergeSort fun x y => decide (x ≤ y) := by
        rw [List.getD_eq_getElem?_getD, List.getElem?_append_right (Nat.le_refl _)]; simp
      have e2 : (vals ++ [gv]).getD (outL G sx.comps).length undef = gv := by
        rw [List.getD_eq_getElem?_getD, ← hout.len, List.getElem?_append_right (Nat.le_refl _)]; simp
      have hlen : ((c.map fun x : Nat => (x : Int)).mergeSort fun x y => decide (x ≤ y)).length = c.length := by rw [List.length_mergeSort, List.length_map]
      rw [e1, e2]
      rw [hlen]
      refine ⟨((hgv8.kept ga (hnone _)).kept hg9 hgu).kept gs (own_far2 hgv8 (by omega)), fun e => ?_⟩
      have h0 := congrArg List.length e
      rw [hlen] at h0
      cases c with
      | nil => cases hn
      | cons a l => cases h0
  · intro g hg
    rcases List.mem_append.1 hg with h | h
    · exact hdis g h
    · simp at h; subst h; exact .inr hgne

theorem idx_stack (a b : List Nat) (i : Nat) (h : i ∉ a) : ∀ (k : Int), idxFrom (fun x => (i : Int) == x) ((a ++ i :: b).map fun x : Nat => (x : Int)) k = k + a.length := by
  induction a with
  | nil => intro k; simp [idxFrom]
  | cons y a ih =>
    intro k
    have h1 : ((i : Int) == (y : Int)) = false := by simp; intro e; exact h (by rw [show i = y by omega]; simp)
    rw [List.cons_append, List.map_cons, idxFrom, h1, if_neg (by simp), ih (fun e => h (List.mem_cons_of_mem _ e))]
    simp; omega
/-- the end of a stack reads as a slice of numbers -/
theorem own_ints_off {W : World} {base g cap : Nat} {a b : List Nat} {m : Nat} (h : W.ownsRow base 3 1 (.slice (some ⟨g, 0, none⟩) m cap) m ((a ++ b).map nV)) (hm : m = (a ++ b).length) {B : Nat} (hB : W.heap.size ≤ B) :
    IntsIn W B (b.map fun x : Nat => (x : Int)) (.slice (some ⟨g, a.length, none⟩) b.length (cap - a.length)) := by
  subst hm
  obtain ⟨ao, cap', he, h1, h2, h4⟩ := own_ints h hB
  rw [List.length_map] at he h1
  injection he with e1 e2 e3
  subst e1 e3
  refine ⟨some ⟨g, a.length, none⟩, cap - a.length, by rw [List.length_map], by rw [List.length_map]; rw [List.length_append] at h1; omega, by omega, fun hne => ?_⟩
  obtain ⟨b', off, ha, hlt, hc⟩ := h4 (by intro e; apply hne; simp at e; simp [e])
  cases ha
  refine ⟨g, a.length, rfl, hlt, fun j hj => ?_⟩
  rw [List.length_map] at hj
  have := hc (a.length + j) (by rw [List.length_map, List.length_append]; omega)
  simp only [OneR] at this ⊢
  rw [Nat.zero_add, Nat.mul_one] at this
  rw [Nat.mul_one, this]
  simp

theorem rowInfo : (Tryz.prog.info? 26).map (fun i => (i.zero, i.size, i.bytes)) = some (some (.slice none 0 0), 1, 24) := by kernel_rfl
theorem outL_len {G : Nat → List Nat} {P : Nat → Prop} {s : TS} {n : Nat} (h : Inv G P s) (hv : ∀ x ∈ s.vis, x < n) (hn : n ≤ 1000) : (outL G s.comps).length ≤ 1000 := by
  have h1 : (outL G s.comps).length ≤ s.comps.length := by unfold outL; rw [List.length_map]; exact List.length_filter_le _ _
  have h2 : ∀ (l : List (List Nat)), (∀ c ∈ l, c ≠ []) → l.length ≤ l.flatten.length := by
    intro l
    induction l with
    | nil => intro _; simp
    | cons c l ih =>
      intro hc
      have h3 := ih fun x hx => hc x (List.mem_cons_of_mem _ hx)
      have h4 : 0 < c.length := List.length_pos_iff.2 (hc c (by simp))
      rw [List.flatten_cons, List.length_append, List.length_cons]; omega
  have h3 := h2 s.comps h.ne
  have h4 := List.Nodup.length_le_of_subset h.once (l₂ := s.vis) (fun x hx => (h.part x).2 (.inr hx))
  have h5 := vis_len h.vn hv
  omega

set_option maxRecDepth 100000 in
set_option maxHeartbeats 8000000 in
theorem visit_step (w0 : World) (H nb n : Nat) (rows : List (List Nat)) (hE : TEnv w0 H nb n rows) (hn : n ≤ 1000) (hrl : ∀ k, ∀ x ∈ rows.getD k [], x < n) (N : Nat) (IH : VisitOk w0 H n rows N) : VisitOk w0 H n rows (N + 1) := by
  intro i P s W hN hi hpre hvn hst
  obtain ⟨hfr, hnum, ⟨lL, hlow, hlowl⟩, ⟨lO, hon, honl⟩, v, u, vals, hstk, hout, hdis⟩ := hst
  have hsub : ∀ x ∈ s.stack, x ∈ s.vis := fun x hx => hpre.inv.stack_vis hx
  have hvl := vis_len hpre.inv.vn hvn
  have hsl : s.stack.length ≤ 1000 := by
    have h := hpre.inv.up
    have hnd : s.stack.Nodup := hpre.inv.ord.imp (fun {a b} hab e => by subst e; omega)
    have := List.Nodup.length_le_of_subset hnd (l₂ := s.vis) hsub
    omega
  obtain ⟨t1, t2, t3, t4, t5⟩ := boxes hE hfr
  -- the first two statements
  obtain ⟨W1, hrun1, hn1, hu1⟩ := run_store MapInt.key Tryz.underlying98 hnum (i : Int) (s.vis.length : Int)
  have hln := run_len_map hnum Tryz.underlying98 3
  rw [numF_len] at hln
  have fr1 := hfr.grown (grown_of_upd hu1) (fun b e => by cases e; omega)
  obtain ⟨a1, a2, a3, a4, a5⟩ := boxes hE fr1
  have hlk1 := run_look MapInt.key Tryz.underlying98 zero_int hn1 (i : Int)
  rw [lookup_ins_same] at hlk1
  have hlow1 := hlow.upd hu1 (by omega)
  obtain ⟨W2, hrun2, hl2, hu2⟩ := run_store MapInt.key Tryz.underlying98 hlow1 (i : Int) (s.vis.length : Int)
  have fr2 := fr1.grown (grown_of_upd hu2) (fun b e => by cases e; omega)
  obtain ⟨b1, b2, b3, b4, b5⟩ := boxes hE fr2
  have stk2 := (hstk.grown (grown_of_upd hu1) (by simp) (own_far2 hstk.own (by omega))).grown (grown_of_upd hu2) (by simp) (own_far2 hstk.own (by omega))
  have b6 : W2.cell? ⟨H + 2, 0, none⟩ = some v := stk2.blk.cell 0
  have hon2 := (hon.upd hu1 (by omega)).upd hu2 (by omega)
  have HSTK2 := Lib.hid stk2
  have HON2 := Lib.hid hon2
  have HFR2 := Lib.hid fr2
  have HPUSH := Lib.hid (fun (w1 w3 : World) (gg cap : Nat) hg ho ha h3 hu3 => push_tst (w1 := w1) (w3 := w3) (gg := gg) (cap := cap) hpre.fresh hsub hfr hn1 hu1 hlow hlowl hl2 hu2 hon honl hstk hout hdis hg ho ha h3 hu3)
  have HE := Lib.hid hE
  have HPRE := Lib.hid hpre
  have HIH := Lib.hid IH
  have HVN := Lib.hid hvn
  have HRL := Lib.hid hrl
  have hvl0 := hpre.fresh
  clear hfr hnum hlow hlowl hon honl hstk hout hdis hsub hn1 hu1 hlow1 hl2 hu2 fr1 fr2 stk2 hon2 hE hpre IH hvn hrl hvl0
  obtain ⟨i0, hi0, hz0, hz1', hz2⟩ := info_parts intInfo
  go_enter Tryz.func53, Tryz.ntmps53
  go_upto_region 2 with (fail)
  go_cut [] (fun wx => Hid (TSt w0 H (edg rows) (s.push i) wx))
  case first =>
    have hz2s := HFR2.out.size
    have h2lt : H + 2 < W2.heap.size := by omega
    have h8lt : H + 8 < W2.heap.size := by omega
    go_region_law (refine step_append_lies _ (by rfl) _ _ _ (by rfl) (H + 10) 3 i0 _ 1 8 Tryz.underlying26 hi0 hz0 hz1' hz2 rfl (by omega) v s.stack.length _ (by rfl) ((HSTK2.out.own.alloc _).drew) ⟨W2.heap.size, 0, none⟩ 1 1 [.int .i64 i] (by rfl) (by rfl) (World.news_of_block (cs := #[.int .i64 i]) (t := 3) (fr := (0, 0)) (heap_alloc_new W2 _)) (by simp [Value.oneCell']) (by omega) (by unfold maxLen; omega) (by omega) (by simp; omega) (W2.heap.size + 1) (by simp) ?_; intro gg cap w1 hown1 hgrow hat hlt1; have hsk := sk1 HSTK2.out hgrow; have s6 : w1.cell? ⟨H + 2, 0, none⟩ = some v := hsk.cell 0; have z6 := hsk.frozen 0; have s3 := (grow1 HSTK2.out hgrow (by omega) (by omega)).trans b3; obtain ⟨w3, hrun3, ho3, hu3⟩ := run_store MapInt.key Tryz.underlying71 (on1 HSTK2.out HON2.out hgrow (.slice (some ⟨gg, 0, none⟩) (s.stack.length + 1) cap)) (i : Int) true)
    all_goals
      have HT := Lib.hid (HPUSH.out w1 w3 gg cap hgrow hown1 hat ho3 hu3)
      clear hgrow hown1 hat ho3 hu3 hsk s6 z6 s3
      go_wp2
      go_meet
      exact HT
  case rest =>
    clear t1 t2 t3 t4 t5 a1 a2 a3 a4 a5 b1 b2 b3 b4 b5 b6 hrun1 hrun2 hln hlk1 HSTK2 HON2 HFR2 HPUSH
    obtain ⟨bb, hbb, hnb, hby1, hby2⟩ := HE.out.by_
    obtain ⟨rv, hrv1, hrv2⟩ := hby2 i hi
    obtain ⟨ao, rcap, rfl, rl1, rl2, _⟩ := SlIn.shape hrv2
    simp only [List.length_map] at hrv1 hrv2 rl1
    unfold maxLen at rl2
    have hfrc := hcut.out.fr.below
    obtain ⟨t1, t2, t3, t4, t5⟩ := boxes HE.out hcut.out.fr
    have m4 := (hfrc.cell (p := ⟨nb, 4, none⟩) (by simp; omega)).trans hby1
    have m5 := (hfrc.cell (p := ⟨bb, i, none⟩) (by simp; omega)).trans hrv1
    have HRV := Lib.hid hrv2
    have HRV1 := Lib.hid hrv1
    have HBY1 := Lib.hid hby1
    have HBY2 := Lib.hid hby2
    have hi0' : (0 : Int) ≤ (i : Int) := Int.natCast_nonneg _
    have hi1' : (i : Int) < (n : Int) := by omega
    have HV0 : Hid (∀ x ∈ (s.push i).vis, x < n) := fun x hx => by
      rcases List.mem_append.1 hx with h | h
      · exact HVN.out x h
      · simp at h; omega
    have HLI := Lib.hid (push_LI HPRE.out)
    have hed : edg rows i = rows.getD i [] := rfl
    generalize hrow : rows.getD i [] = row at *
    have HED := Lib.hid hed
    clear hby1 hby2 hrv1 hrv2 hfrc hed hrow
    go_wp2
    go_loopw [40] (fun iv wr => ∃ (k : Nat) (sx : TS), k ≤ row.length ∧ iv = .int .i64 k ∧ Hid (LI (edg rows) P i s (row.take k) sx) ∧ Hid (∀ x ∈ sx.vis, x < n) ∧ Hid (TSt w0 H (edg rows) sx wr)) (fun iv _ => row.length - (intOf iv).toNat)
    case atStart => exact ⟨0, s.push i, Nat.zero_le _, rfl, HLI, HV0, hcut⟩
    case round =>
      obtain ⟨k, sx, hk, rfl, hli, hv, hst⟩ := hrel
      clear HLI HV0 hcut t1 t2 t3 t4 t5 m4 m5
      obtain ⟨t1, t2, t3, t4, t5⟩ := boxes HE.out hst.out.fr
      by_cases hlt : k < row.length
      · have hrw := HRV.out.below (hst.out.fr.below.mono (by omega : H ≤ H + 1))
        obtain ⟨rb, ro, rfl, _, hcx⟩ := SlIn.one hrw k (by rw [List.length_map]; exact hlt)
        rw [List.getElem_map] at hcx
        have hts : Hid (row.take (k + 1) = row.take k ++ [row[k]]) := List.take_succ_eq_append_getElem hlt
        have hxe : row[k] ∈ edg rows i := by rw [HED.out]; exact List.getElem_mem hlt
        have hxn : row[k] < n := HRL.out i _ hxe
        generalize row[k] = x at *
        have HXE := Lib.hid hxe
        have hmn := hst.out.num
        have hlk := run_look_ok MapInt.key Tryz.underlying98 zero_int hmn (x : Int)
        rw [numF_lookup, Nat.zero_add] at hlk
        clear hmn hxe hrw
        by_cases hxv : x ∈ sx.vis
        · rw [if_pos hxv] at hlk
          have HXV := Lib.hid hxv
          clear hxv
          obtain ⟨lO, hon, honl⟩ := hst.out.on
          have hlo := look_on hon honl x
          clear hon honl
          by_cases hxs : x ∈ sx.stack
          · rw [decide_eq_true hxs] at hlo
            obtain ⟨lL, hlow, hlowl⟩ := hst.out.low
            have hiv : i ∈ sx.vis := hli.out.inv.stack_vis hli.out.mem
            have hl1 := look_low hlow (hlowl i hiv)
            have hl2 := look_num hst.out.num HXV.out
            have HL2 := Lib.hid (hli.out.on HXE.out hxs)
            obtain ⟨W', hrun, hl', hu⟩ := run_store MapInt.key Tryz.underlying98 hlow (i : Int) ((min (sx.low i) (sx.num x) : Nat) : Int)
            have HT2 := Lib.hid (lower_tst (v := sx.num x) hst.out hiv hlow hlowl hl' hu)
            change _ = Result.ok (Value.int .i64 (sx.num x : Nat)) wr at hl2
            have HV2 := hv
            clear hlow hlowl hiv hxs hl' hu hst hv hli
            rw [show ((min (sx.low i) (sx.num x) : Nat) : Int) = min (sx.low i : Int) (sx.num x : Int) by omega] at hrun
            go_wp2
            go_roundw
            case rel => exact ⟨k + 1, sx.lower i (sx.num x), by omega, by go_num, by rw [hts.out]; exact HL2, HV2, HT2⟩
            case measure => simp [intOf]; omega
          · rw [decide_eq_false hxs] at hlo
            have HL2 := Lib.hid (hli.out.off HXV.out hxs)
            have HST := hst
            have HV2 := hv
            clear hxs hst hv hli
            go_wp2
            go_roundw
            case rel => exact ⟨k + 1, sx, by omega, by go_num, by rw [hts.out]; exact HL2, HV2, HST⟩
            case measure => simp [intOf]; omega
        · rw [if_neg hxv] at hlk
          have hvlen : s.vis.length + 1 ≤ sx.vis.length := by
            obtain ⟨l, hl⟩ := hli.out.vis
            rw [hl]; simp
          have HI := Lib.hid (HIH.out x (fun y => P y ∨ y = i) sx wr (by omega) hxn (hli.out.child HXE.out hxv) hv.out hst.out)
          have HXV := Lib.hid hxv
          have HLI := hli
          clear hxv hli hst hv
          go_wp2_with
            (go_at_call 53; refine HI.out.mono ?_; rintro e w4 ⟨rfl, s1, hpost, hv1, hst1⟩
             obtain ⟨q1, q2, q3, q4, q5⟩ := boxes HE.out hst1.fr
             obtain ⟨lL, hlow, hlowl⟩ := hst1.low
             have hiv : i ∈ s1.vis := by
               obtain ⟨l, hl⟩ := hpost.vis
               rw [hl]; exact List.mem_append_left _ (HLI.out.inv.stack_vis HLI.out.mem)
             have hxv : x ∈ s1.vis := by
               obtain ⟨l, hl⟩ := hpost.vis
               rw [hl]; simp
             have hl1 := look_low hlow (hlowl i hiv)
             have hl2 := look_low hlow (hlowl x hxv)
             have HL2 := Lib.hid (HLI.out.fresh HXE.out HXV.out hpost)
             obtain ⟨W', hrun, hl', hu⟩ := run_store MapInt.key Tryz.underlying98 hlow (i : Int) ((min (s1.low i) (s1.low x) : Nat) : Int)
             have HT2 := Lib.hid (lower_tst (v := s1.low x) hst1 hiv hlow hlowl hl' hu)
             have HV2 := Lib.hid hv1
             rw [show ((min (s1.low i) (s1.low x) : Nat) : Int) = min (s1.low i : Int) (s1.low x : Int) by omega] at hrun
             clear hlow hlowl hiv hxv hpost hv1 hst1 hl' hu)
          go_roundw
          case rel => exact ⟨k + 1, s1.lower i (s1.low x), by omega, by go_num, by rw [hts.out]; exact HL2, HV2, HT2⟩
          case measure => simp [intOf]; omega
      · have hall : k = row.length := by omega
        subst hall
        rw [List.take_length, ← HED.out] at hli
        have hmem := hli.out.mem
        have hiv : i ∈ sx.vis := hli.out.inv.stack_vis hmem
        obtain ⟨lL, hlow, hlowl⟩ := hst.out.low
        have hl1 := look_low hlow (hlowl i hiv)
        have hl2 := look_num hst.out.num hiv
        change _ = Result.ok (Value.int .i64 (sx.num i : Nat)) wr at hl2
        clear hlow hlowl
        by_cases heq : sx.low i = sx.num i
        · have hne : ((sx.low i : Int) != (sx.num i : Int)) = false := by rw [heq]; simp
          obtain ⟨new, hnew, _⟩ := hli.out.stk
          have hHST := hst
          obtain ⟨hfr, hnum, hlowx, ⟨lO, hon, honl⟩, v, u, vals, hstk, hout, hdis⟩ := hst.out
          have hnd : sx.stack.Nodup := hli.out.inv.ord.imp (fun {a b} hab e => by subst e; omega)
          have hml : sx.stack.length = s.stack.length + (new.length + 1) := by rw [hnew]; simp
          have hmx : sx.stack.length ≤ 1000 := by
            have h1 := List.Nodup.length_le_of_subset hnd (l₂ := sx.vis) (fun x hx => hli.out.inv.stack_vis hx)
            have h2 := vis_len hli.out.inv.vn hv.out
            omega
          obtain ⟨g, cap, rfl, hg10, hglt⟩ := hstk.own.form (by omega)
          have hcap : sx.stack.length ≤ cap ∧ cap ≤ 9223372036854775807 := by
            rcases hstk.own.2 with ⟨e, _⟩ | ⟨g', cap', cur, e, _, _, h1, h2, _⟩
            · cases e
            · cases e; exact ⟨h1, h2⟩
          obtain ⟨hcap1, hcap2⟩ := hcap
          have HPOST := Lib.hid (hli.out.pops heq hnew)
          have HOL := Lib.hid (outL_len (G := edg rows) hli.out.inv hv.out hn)
          have hni : i ∉ s.stack := fun e => HPRE.out.fresh (HPRE.out.inv.stack_vis e)
          have HIX := indexInt_any (sx.stack.map fun x : Nat => (x : Int)) (i : Int) _ wr wr.heap.size (own_ints hstk.own (Nat.le_refl _))
          rw [hnew, idx_stack _ _ _ hni, Int.zero_add, ← hnew] at HIX
          have HIX := Lib.hid HIX
          have hcl := clone_any ((i :: new).map fun x : Nat => (x : Int)) (some ⟨g, s.stack.length, none⟩) (cap - s.stack.length) wr wr.heap.size (H + 10) (by simp) (by simp; omega) (by have := hfr.size; omega) (Nat.le_refl _)
            (by have h := own_ints_off (a := s.stack) (b := i :: new) (by rw [← hnew]; exact hstk.own) (by rw [hnew]) (Nat.le_refl _); rw [List.length_map]; exact h)
          have b6 : wr.cell? ⟨H + 2, 0, none⟩ = some (.slice (some ⟨g, 0, none⟩) sx.stack.length cap) := hstk.blk.cell 0
          simp only [List.length_map, List.length_cons, List.map_map] at hcl
          have HCL := Lib.hid hcl
          have HST := Lib.hid hstk
          have HOU := Lib.hid hout
          have HDI := Lib.hid hdis
          have HFR := Lib.hid hfr
          have HON := Lib.hid hon
          have HONL := Lib.hid honl
          have HND := Lib.hid hnd
          have HNEW := Lib.hid hnew
          have HV2 := hv
          obtain ⟨fr, hfe⟩ : ∃ fr, fr = s.stack.length := ⟨_, rfl⟩
          obtain ⟨m, hme⟩ : ∃ m, m = sx.stack.length := ⟨_, rfl⟩
          obtain ⟨gl, hge⟩ : ∃ gl, gl = new.length + 1 := ⟨_, rfl⟩
          rw [← hfe] at HIX HCL
          rw [← hme] at b6 HIX
          rw [← hge] at HCL
          have fr1 : fr + gl = m := by omega
          have fr2 : 1 ≤ gl := by omega
          have fr3 : m ≤ cap := by omega
          have fr4 : m ≤ 1000 := by omega
          have fr5 : (0 : Int) ≤ (fr : Int) := Int.natCast_nonneg _
          have fr6 : ¬ cap = fr := by omega
          have HFE := Lib.hid hfe
          have HME := Lib.hid hme
          have HGE := Lib.hid hge
          clear heq hli hst hv hmem hiv hnew hnd hml hmx hcap1 hni hcl hstk hout hdis hfr hon honl hnum hlowx hfe hme hge hsl hvl
          go_wp2_with (go_at_call 54; refine HIX.out.mono ?_; rintro e w4 ⟨rfl, rfl⟩)
          rw [show m - fr = gl by omega]
          refine HCL.out.mono ?_
          rintro e w5 ⟨gv, rfl, hgv, hb5, gg, gc, hgve, hggl⟩
          have hfr5 := HFR.out.grown (grown_of_below hb5) (fun b e => by cases e)
          obtain ⟨q1, q2, q3, q4, q5⟩ := boxes HE.out hfr5
          have hk5 : Blk w5 (H + 2) 26 #[.slice (some ⟨g, 0, none⟩) sx.stack.length cap] := HST.out.blk.grown (grown_of_below hb5) (by simp)
          have s6 : w5.cell? ⟨H + 2, 0, none⟩ = some (.slice (some ⟨g, 0, none⟩) m cap) := by rw [HME.out]; exact hk5.cell 0
          have z6 := hk5.frozen 0
          have HB5 := Lib.hid hb5
          have HGV := Lib.hid hgv
          have HFR5 := Lib.hid hfr5
          have hs5 : wr.heap.size ≤ w5.heap.size := hb5.size
          have HON5 : Hid (MapIs (Value.int .i64) Value.bool (w5.setCell ⟨H + 2, 0, none⟩ (.slice (some ⟨g, 0, none⟩) fr cap)) (H + 7) lO) := (HON.out.grown (grown_of_below hb5) (by simp)).grown (grownBy_setCell' _ _ _) (by simp)
          clear hfr5 hk5 hb5 hgv
          subst hgve
          go_wp2
          obtain ⟨wt, hwt⟩ : ∃ wt, wt = w5.setCell ⟨H + 2, 0, none⟩ (.slice (some ⟨g, 0, none⟩) fr cap) := ⟨_, rfl⟩
          rw [← hwt] at HON5 ⊢
          have HWT := Lib.hid hwt
          clear hwt
          have HGVT : Hid (wt.ownsRow (H + 10) 3 1 (.slice (some ⟨gg, 0, none⟩) gl gc) gl ((i :: new).map nV)) := by
            have h := HGV.out.kept (grownBy_setCell' w5 (H + 2) (.slice (some ⟨g, 0, none⟩) fr cap)) (own_far2 HGV.out (by omega))
            rw [HWT.out]; exact h
          have HFRT : Hid (Fr w0 H wt) := by
            rw [HWT.out]; exact HFR5.out.grown (grownBy_setCell' w5 (H + 2) _) (fun b e => by cases e; omega)
          clear q1 q2 q3 q4 q5 s6 z6 b6
          go_loopw [96] (fun iv wr => ∃ (j : Nat), j ≤ gl ∧ iv = .int .i64 j ∧ Hid (∃ l, MapIs (Value.int .i64) Value.bool wr (H + 7) l ∧ ∀ x : Nat, (l.lookup (x : Int)).getD false = (decide (x ∈ sx.stack) && !decide (x ∈ (i :: new).take j))) ∧ Hid (wt.grownBy wr (some (H + 7)))) (fun iv _ => gl - (intOf iv).toNat)
          case atStart => exact ⟨0, Nat.zero_le _, rfl, ⟨lO, HON5, fun x => by rw [HONL.out]; simp⟩, ⟨rfl, rfl, rfl, Nat.le_refl _, fun _ _ _ => rfl⟩⟩
          case round =>
            obtain ⟨j, hj, rfl, ho7, hg7⟩ := hrel
            have hfr7 := HFRT.out.grown hg7.out (fun b e => by cases e; omega)
            obtain ⟨q1, q2, q3, q4, q5⟩ := boxes HE.out hfr7
            have hgl : gl = (i :: new).length := by rw [HGE.out]; simp
            by_cases hjl : j < gl
            · have hown := HGVT.out.kept hg7.out (own_far2 HGVT.out (by omega))
              rw [hgl] at hown
              obtain ⟨b1, o1, ha1, _, hcy⟩ := SlIn.one (own_ints hown (Nat.le_refl _)) j (by rw [List.length_map, ← hgl]; exact hjl)
              cases ha1
              rw [List.getElem_map, Nat.zero_add] at hcy
              have hjl' : j < (i :: new).length := by rw [← hgl]; exact hjl
              have hts : (i :: new).take (j + 1) = (i :: new).take j ++ [(i :: new)[j]] := List.take_succ_eq_append_getElem hjl'
              generalize (i :: new)[j] = y at *
              obtain ⟨l7, hl7, hl8⟩ := ho7.out
              obtain ⟨W', hrun, hl', hu⟩ := run_store MapInt.key Tryz.underlying71 hl7 (y : Int) false
              have HO8 : Hid (∃ l, MapIs (Value.int .i64) Value.bool W' (H + 7) l ∧ ∀ x : Nat, (l.lookup (x : Int)).getD false = (decide (x ∈ sx.stack) && !decide (x ∈ (i :: new).take (j + 1)))) := by
                refine ⟨_, hl', fun x => ?_⟩
                by_cases hxy : x = y
                · subst hxy; rw [lookup_ins_same, hts]; simp
                · rw [lookup_ins_other _ _ (by omega), hl8, hts]; simp [hxy]
              have HG8 := Lib.hid (hg7.out.trans (grown_of_upd hu))
              clear hown hts hl7 hl8 hl' hu ho7 hg7 hfr7 hjl' hgl
              go_wp2
              go_roundw
              case rel => exact ⟨j + 1, by omega, by go_num, HO8, HG8⟩
              case measure => simp [intOf]; omega
            · have hjg : j = gl := by omega
              subst hjg
              have hps : PopSt w0 H (edg rows) s sx (i :: new) (.slice (some ⟨gg, 0, none⟩) j gc) wr := by
                refine pop_st (g := g) (cap := cap) hHST.out HNEW.out HND.out HST.out HOU.out HDI.out HB5.out (by rw [← hgl]; exact HGV.out) ⟨gg, gc, by rw [← hgl], hggl⟩ (by rw [← HFE.out, ← HWT.out]; exact hg7.out) ?_
                obtain ⟨l, h1, h2⟩ := ho7.out
                rw [hgl, List.take_length] at h2
                exact ⟨l, h1, h2⟩
              have HPS := Lib.hid hps
              have HGL := Lib.hid hgl
              clear hps hgl ho7 hg7
              have hfb := hfr7.below
              have m4 := (hfb.cell (p := ⟨nb, 4, none⟩) (by simp; omega)).trans HBY1.out
              obtain ⟨rv2, hrv1, _⟩ := HBY2.out i hi
              have m5 : wr.cell? ⟨bb, i, none⟩ = some (.slice ao row.length rcap) := (hfb.cell (p := ⟨bb, i, none⟩) (by simp; omega)).trans HRV1.out
              have hct := containsInt_any _ (i : Int) _ wr H (HRV.out.below (hfb.mono (by omega : H ≤ H + 1)))
              rw [any_contains] at hct
              have hnt : nontriv (edg rows) (i :: new) = (!new.isEmpty || row.contains i) := by rw [← HED.out]; rfl
              have hne2 : new.isEmpty = decide (j = 1) := by rw [HGL.out]; cases new <;> simp
              rw [hne2] at hnt
              have HCT := Lib.hid hct
              clear hct hne2 hfb hfr7 hrv1
              by_cases htold : nontriv (edg rows) (i :: new) = true
              · have hcase : decide ((1 : Int) < (j : Int)) = true ∨ (decide ((1 : Int) < (j : Int)) = false ∧ row.contains i = true) := by
                  by_cases h1 : j = 1
                  · right
                    rw [hnt, decide_eq_true h1] at htold
                    exact ⟨decide_eq_false (by omega), by simpa using htold⟩
                  · left; exact decide_eq_true (by omega)
                obtain ⟨pf, pn, pl, po, v', u', vals', ps1, ps2, ps3, ps4, ps5, ps6⟩ := HPS.out
                have HSO : Hid (Calls Tryz.prog 56 #[.slice (some ⟨gg, 0, none⟩) j gc] wr fun e w' => e = .returned (.tuple #[]) ∧
                    w'.ownsRow (H + 10) 3 1 (.slice (some ⟨gg, 0, none⟩) j gc) (i :: new).length ((((i :: new).map fun x : Nat => (x : Int)).mergeSort fun x y => decide (x ≤ y)).map iV) ∧ wr.grownBy w' (some gg)) := by
                  have h := sortI_any ((i :: new).map fun x : Nat => (x : Int)) gg gc (H + 10) wr (by rw [List.length_map, ← HGL.out]; omega) (by rw [List.length_map, List.map_map, ← HGL.out]; rw [← HGL.out] at ps4; exact ps4)
                  rw [List.length_map, ← HGL.out] at h
                  rw [← HGL.out]; exact h
                have hvl' : vals'.length ≤ 1000 := by rw [ps2.len]; exact HOL.out
                have HTOLD := Lib.hid (fun (w8 w9 : World) (gu cu : Nat) a1 a2 a3 a4 => pop_told (w8 := w8) (w9 := w9) (gu := gu) (cu := cu) htold pf pn pl po ps1 ps2 ps3 ps4 ps5 ps6 a1 a2 a3 a4)
                have HO := Lib.hid ps2
                have HGV7 := Lib.hid ps4
                have HPF := Lib.hid pf
                obtain ⟨i1, hi1, hx0, hx1, hx2⟩ := info_parts rowInfo
                clear pf pn pl po ps1 ps2 ps3 ps4 ps5 ps6 hnt htold
                rcases hcase with d1 | ⟨d1, d2⟩
                all_goals
                  try rw [d2] at HCT
                  go_wp2_with (first
                    | (go_at_call 52; refine HCT.out.mono ?_; rintro e w3 ⟨rfl, rfl⟩)
                    | (go_at_call 56; refine HSO.out.mono ?_; rintro e w8 ⟨rfl, hgv8, hg8⟩; have hb8 := HO.out.blk.grown hg8 (by simp; omega); have c8 : w8.cell? ⟨H + 1, 0, none⟩ = some u' := hb8.cell 0; have hO8 := HO.out.own.kept hg8 (own_types HO.out.own HGV7.out (by decide)); have HGV8 := Lib.hid hgv8; have HG8 := Lib.hid hg8; have HO8 := Lib.hid hO8; have HB8 := Lib.hid hb8; have hz8 : H + 10 ≤ w8.heap.size := Nat.le_trans HPF.out.size hg8.size; clear hgv8 hg8 hb8 hO8)
                    | (at_builtin; refine wpList_append_own_at _ rfl _ _ 75 rfl (H + 10) 26 i1 _ 1 24 Tryz.underlying75 hi1 hx0 hx1 hx2 rfl (by decide) u' vals'.length vals' rfl (HO8.out.alloc _) ⟨w8.heap.size, 0, none⟩ 1 1 [.slice (some ⟨gg, 0, none⟩) j gc] rfl rfl (cell_one_new _ _ _) (by simp [Value.oneCell']) (by unfold maxLen; omega) (by omega) (by simp; omega) ?_; intro v9 w9 hown9 hgrow9 hnil9 hat9; obtain ⟨gu, cu, hv9, _, _⟩ := hown9.form (by omega); subst hv9; have hb9 := (HB8.out.grown (World.grownBy_alloc w8 (.cells #[.slice (some ⟨gg, 0, none⟩) j gc] 26) none) (by simp)).grown hgrow9 (fun e => by have := own_far2 HO8.out (show H + 1 < H + 10 by omega); rw [← e] at this; simp at this); have c9 : w9.cell? ⟨H + 1, 0, none⟩ = some u' := hb9.cell 0; have z9 := hb9.frozen 0; have HFIN := Lib.hid (HTOLD.out w8 w9 gu cu HG8.out HGV8.out hgrow9 hown9); clear hown9 hgrow9 hnil9 hat9 hb9))
                  go_end0
                  exact ⟨rfl, sx.pop s.stack (i :: new), HPOST.out, HV2.out, HFIN.out⟩
              · have hq : nontriv (edg rows) (i :: new) = false := by simpa using htold
                rw [hnt] at hq
                simp only [Bool.or_eq_false_iff, Bool.not_eq_false', decide_eq_true_iff] at hq
                obtain ⟨hj1, hrc⟩ := hq
                have d1 : decide ((1 : Int) < (j : Int)) = false := decide_eq_false (by omega)
                have HFIN := Lib.hid (pop_quiet HPS.out (by simpa using htold))
                rw [hrc] at HCT
                clear htold hnt hrc
                go_wp2_with (go_at_call 52; refine HCT.out.mono ?_; rintro e w3 ⟨rfl, rfl⟩)
                go_end0
                exact ⟨rfl, sx.pop s.stack (i :: new), HPOST.out, HV2.out, HFIN.out⟩
        · have hne : ((sx.low i : Int) != (sx.num i : Int)) = true := by rw [bne_iff_ne]; omega
          have HPOST := Lib.hid (hli.out.stay heq)
          have HST := hst
          have HV2 := hv
          clear heq hli hst hv hmem hiv
          go_wp2
          exact bodyPost_ret (results_none rfl _ _ _) rfl ⟨rfl, sx, HPOST.out, HV2.out, HST.out⟩

end Go.Proofs.YtihpoecdnchioaaGreatDoor
