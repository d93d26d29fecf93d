/- The walk of norm.of: the map of places, the rows of exceptions. Bounds on the number of provisions and of exceptions. -/
import Derived.Test.YtihpoecdnchioaaGreatDoorOfP
import Derived.Test.YtihpoecdnchioaaGreatDoorCheck
import Derived.Test.YtihpoecdnchioaaGreatDoorSl
import Derived.Test.YtihpoecdnchioaaGreatDoorFew
import Derived.Deep.OwnRows
import Derived.Deep.AppendLies
import Derived.Deep.RegionHeld3
import Derived.Deep.RegionLaw
import Derived.BigRegion
namespace Go.Proofs.YtihpoecdnchioaaGreatDoor
open Go.RowKit

def nV (x : Nat) : Value := .int .i64 x
/-- a row of rows that the call itself has made: the rows' values, none of them in another's block -/
structure RowsIs (W : World) (base bb : Nat) (rows : List (List Nat)) (vs : List Value) : Prop where
  len : vs.length = rows.length
  blk : Blk W bb 26 vs.toArray
  lt : bb < base
  own : ∀ k, k < rows.length → W.ownsRow base 3 1 (vs.getD k undef) (rows.getD k []).length ((rows.getD k []).map nV)
  dis : ∀ k k', k < rows.length → k' < rows.length → k ≠ k' → (vs.getD k undef).ownBlock = none ∨ (vs.getD k undef).ownBlock ≠ (vs.getD k' undef).ownBlock

theorem RowsIs.kept {W W' : World} {base bb : Nat} {rows : List (List Nat)} {vs : List Value} (h : RowsIs W base bb rows vs) {row : Option Nat} (hg : W.grownBy W' row) (hb : ∀ b, row = some b → b < base ∧ b ≠ bb) : RowsIs W' base bb rows vs := by
  refine ⟨h.len, (hg.block bb h.blk.lt (fun e => (hb bb e.symm).2 rfl)).trans h.blk, h.lt, fun k hk => (h.own k hk).kept hg ?_, h.dis⟩
  rcases (h.own k hk).2 with ⟨e, _⟩ | ⟨g, cap, cur, e, hgb, _⟩
  · rw [e]; exact .inl rfl
  · rw [e]; right
    intro e'
    have := (hb g (by simpa [Value.ownBlock] using e'.symm)).1
    omega

theorem grown_of_upd {b : Nat} {w w' : World} (h : Upd b w w') : w.grownBy w' (some b) := ⟨h.os, h.tape, h.output, Nat.le_of_eq h.size.symm, fun k hk hne => h.block k (fun e => hne (by rw [e]))⟩

theorem RowsIs.start {W : World} {bb n : Nat} (h : Blk W bb 26 (madeCells #[.slice none 0 0] n)) {base : Nat} (hb : bb < base) : RowsIs W base bb (List.replicate n []) (List.replicate n (.slice none 0 0)) := by
  have he : madeCells #[Value.slice none 0 0] n = (List.replicate n (Value.slice none 0 0)).toArray := by
    apply Array.ext
    · simp [size_madeCells]
    · intro i h1 h2
      have : (madeCells #[Value.slice none 0 0] n)[i]? = some (.slice none 0 0) := by
        simp [size_madeCells] at h1
        simp [madeCells, h1, Nat.mod_one]
      rw [Array.getElem?_eq_getElem h1] at this
      simp at this ⊢
      exact this
  have hg : ∀ k, k < n → (List.replicate n (Value.slice none 0 0)).getD k undef = .slice none 0 0 := fun k hk => by simp [List.getD_eq_getElem?_getD, hk]
  refine ⟨by simp, by rw [← he]; exact h, hb, fun k hk => ?_, fun k k' hk _ _ => ?_⟩
  · simp only [List.length_replicate] at hk
    rw [hg k hk, show (List.replicate n ([] : List Nat)).getD k [] = [] by simp [List.getD_eq_getElem?_getD, List.getElem?_replicate]; split <;> rfl]
    exact World.ownsRow_nil _ _ _ _
  · simp only [List.length_replicate] at hk
    rw [hg k hk]; exact .inl rfl

theorem foldB_le (at_ : List (ByteArray × Int)) (i k : Nat) : ∀ (l : List ByteArray) (rows : List (List Nat)), ((l.foldl (stepB at_ i) rows).getD k []).length ≤ (rows.getD k []).length + l.length
  | [], rows => by simp
  | id :: l, rows => by
    rw [List.foldl_cons, List.length_cons]
    have h1 := foldB_le at_ i k l (stepB at_ i rows id)
    have h2 : ((stepB at_ i rows id).getD k []).length ≤ (rows.getD k []).length + 1 := by
      unfold stepB
      split
      · omega
      · rename_i x hx
        unfold addB
        split
        · omega
        · by_cases e : x.toNat = k
          · subst e
            by_cases hb : x.toNat < rows.length
            · simp [List.getD_eq_getElem?_getD, hb]
            · simp [List.getD_eq_getElem?_getD, Nat.not_lt.1 hb]
          · simp [List.getD_eq_getElem?_getD, List.getElem?_set_ne e]
    omega
theorem byK_le (at_ : List (ByteArray × Int)) (ex : List (List ByteArray)) (h : ∀ l ∈ ex, l.length ≤ 40) (k : Nat) : ∀ i, ((byK at_ ex i).getD k []).length ≤ 40 * i
  | 0 => by simp [byK, List.getD_eq_getElem?_getD, List.getElem?_replicate]; split <;> simp
  | i + 1 => by
    have h1 := byK_le at_ ex h k i
    have h2 := foldB_le at_ i k (ex.getD i []) (byK at_ ex i)
    have h3 : (ex.getD i []).length ≤ 40 := by
      rw [List.getD_eq_getElem?_getD]
      cases hx : ex[i]? with
      | none => simp
      | some l => exact h l (List.mem_of_getElem? hx)
    rw [byK]; omega
theorem intInfo : (Tryz.prog.info? 3).map (fun i => (i.zero, i.size, i.bytes)) = some (some (.int .i64 0), 1, 8) := by kernel_rfl
theorem zero_int : ∀ w, (zeroValue 3).run Tryz.prog w = .ok (.int .i64 0) w := Tryz.zeroValue3
theorem any_contains (l : List Nat) (k : Nat) : ((l.map fun x : Nat => (x : Int)).any fun x => (k : Int) == x) = l.contains k := by
  rw [List.any_map]
  induction l with
  | nil => rfl
  | cons a l ih =>
    rw [List.any_cons, List.contains_cons, ← ih]
    congr 1
    show ((k : Int) == (a : Int)) = _
    rw [Bool.eq_iff_iff, beq_iff_eq, beq_iff_eq]; omega
/-- a row of the call's own reads as a slice of numbers -/
theorem own_ints {W : World} {base : Nat} {v : Value} {l : List Nat} (h : W.ownsRow base 3 1 v l.length (l.map nV)) {B : Nat} (hB : W.heap.size ≤ B) : IntsIn W B (l.map fun x : Nat => (x : Int)) v := by
  rcases h.2 with ⟨rfl, h0⟩ | ⟨g, cap, cur, rfl, _, hg, h1, h2, h3, h4⟩
  · have : l = [] := List.length_eq_zero_iff.1 h0
    subst this
    exact ⟨none, 0, rfl, Nat.zero_le _, Nat.zero_le _, fun e => absurd rfl e⟩
  · refine ⟨some ⟨g, 0, none⟩, cap, by rw [List.length_map], by rw [List.length_map]; exact h1, h2, fun _ => ⟨g, 0, rfl, ?_, fun i hi => ?_⟩⟩
    · exact Nat.lt_of_lt_of_le (Array.getElem?_eq_some_iff.1 hg).1 hB
    · rw [List.length_map] at hi
      have h5 : (cur.toList.take (l.length * 1))[i]? = (l.map nV)[i]? := by rw [h4]
      rw [List.getElem?_take_of_lt (by omega), List.getElem?_map, List.getElem?_eq_getElem hi] at h5
      show W.cell? ⟨g, 0 + i * 1, none⟩ = some (.int .i64 _)
      simp only [World.cell?, hg]
      simpa [nV] using h5

theorem own_far {W : World} {base : Nat} {v : Value} {n : Nat} {xs : List Value} (h : W.ownsRow base 3 1 v n xs) {b : Nat} (hb : b < base) : some b ≠ v.ownBlock := by
  rcases h.2 with ⟨rfl, _⟩ | ⟨g, cap, cur, rfl, hg, _⟩
  · simp [Value.ownBlock]
  · intro e; simp [Value.ownBlock] at e; omega
theorem blk_of {W W' : World} {B : Nat} {t : TypeId} {cs : Array Value} (h : Blk W' B t cs) (h' : Blk W B t cs) (i : Nat) : W'.cell? ⟨B, i, none⟩ = W.cell? ⟨B, i, none⟩ := by rw [h.cell, h'.cell]

theorem getD_set {α : Type} (l : List α) (k : Nat) (x d : α) (hk : k < l.length) (j : Nat) : (l.set k x).getD j d = if j = k then x else l.getD j d := by
  by_cases h : j = k
  · subst h; simp [List.getD_eq_getElem?_getD, hk]
  · rw [if_neg h]; simp [List.getD_eq_getElem?_getD, List.getElem?_set_ne (Ne.symm h)]

/-- 'by[k] = append(by[k], i)': the rows behind it, and what lies as it lay. -/
theorem RowsIs.append {wr w1 : World} {base bb k' i gg cap : Nat} {R : List (List Nat)} {vs : List Value} {vv : Value} (h : RowsIs wr base bb R vs) (hk : k' < R.length) (hvv : vs.getD k' undef = vv) (hbs : base ≤ wr.heap.size)
    (hg : (wr.alloc (.cells #[.int .i64 (i : Int)] 3)).drew.grownBy w1 vv.ownBlock) (hown1 : w1.ownsRow base 3 1 (.slice (some ⟨gg, 0, none⟩) ((R.getD k' []).length + 1) cap) ((R.getD k' []).length + 1) ((R.getD k' []).map nV ++ [.int .i64 (i : Int)]))
    (hat : vv.ownBlock = some gg ∨ gg = wr.heap.size + 1) :
    RowsIs (w1.setCell ⟨bb, k', none⟩ (.slice (some ⟨gg, 0, none⟩) ((R.getD k' []).length + 1) cap)) base bb (R.set k' (R.getD k' [] ++ [i])) (vs.set k' (.slice (some ⟨gg, 0, none⟩) ((R.getD k' []).length + 1) cap)) ∧
    (∀ b, b < base → b ≠ bb → (w1.setCell ⟨bb, k', none⟩ (.slice (some ⟨gg, 0, none⟩) ((R.getD k' []).length + 1) cap)).heap[b]? = wr.heap[b]?) ∧
    Below bb wr (w1.setCell ⟨bb, k', none⟩ (.slice (some ⟨gg, 0, none⟩) ((R.getD k' []).length + 1) cap)) := by
  have hvown := h.own k' hk
  rw [hvv] at hvown
  have hbl := h.blk.lt
  have hfar : ∀ b, b < base → some b ≠ vv.ownBlock := fun b hb => own_far hvown hb
  have hsz : (wr.alloc (.cells #[.int .i64 (i : Int)] 3)).drew.heap.size = wr.heap.size + 1 := World.size_alloc _ _
  have hblk : Blk w1 bb 26 vs.toArray := (hg.block bb (by rw [hsz]; omega) (hfar bb h.lt)).trans (Blk.alloc h.blk _)
  have hw1 : wr.heap.size + 1 ≤ w1.heap.size := by have := hg.size; rw [hsz] at this; exact this
  have hold : ∀ b, b < base → b ≠ bb → (w1.setCell ⟨bb, k', none⟩ (.slice (some ⟨gg, 0, none⟩) ((R.getD k' []).length + 1) cap)).heap[b]? = wr.heap[b]? := fun b hb hne =>
    (Below.heap_setCell _ _ _ b hne).trans ((hg.block b (by rw [hsz]; omega) (hfar b hb)).trans (Below.heap_alloc _ _ b (by omega)))
  have hgs := grownBy_setCell' w1 bb (.slice (some ⟨gg, 0, none⟩) ((R.getD k' []).length + 1) cap)
  refine ⟨⟨by simp [h.len], ?_, h.lt, ?_, ?_⟩, hold, ?_⟩
  · have := hblk.set k' (.slice (some ⟨gg, 0, none⟩) ((R.getD k' []).length + 1) cap)
    have e : vs.toArray.setIfInBounds k' (.slice (some ⟨gg, 0, none⟩) ((R.getD k' []).length + 1) cap) = (vs.set k' (.slice (some ⟨gg, 0, none⟩) ((R.getD k' []).length + 1) cap)).toArray := by simp
    rw [← e]; exact this
  · intro j hj
    rw [List.length_set] at hj
    have hset : w1.grownBy (w1.setCell ⟨bb, k', none⟩ (.slice (some ⟨gg, 0, none⟩) ((R.getD k' []).length + 1) cap)) (some bb) :=
      ⟨rfl, rfl, rfl, by simp [World.setCell], fun b _ hne => Below.heap_setCell _ _ _ b (fun e => hne (by rw [e]))⟩
    rw [getD_set _ _ _ _ (by rw [h.len]; exact hk), getD_set _ _ _ _ hk]
    by_cases e : j = k'
    · rw [if_pos e, if_pos e, List.length_append, List.map_append]
      refine hown1.kept hset (.inr ?_)
      have := hown1.2
      rcases this with ⟨e, _⟩ | ⟨g, c, cur, e, hgb, _⟩
      · cases e
      · cases e
        simp only [Value.ownBlock]; intro e; simp at e; have := h.lt; omega
    · rw [if_neg e, if_neg e]
      have h1 := (h.own j hj).kept (World.grownBy_alloc wr (.cells #[.int .i64 (i : Int)] 3) none) (by
        rcases (h.own j hj).2 with ⟨e1, _⟩ | ⟨g, c, cur, e1, _⟩
        · rw [e1]; exact .inl rfl
        · rw [e1]; right; simp [Value.ownBlock])
      have h2 : w1.ownsRow base 3 1 (vs.getD j undef) (R.getD j []).length ((R.getD j []).map nV) := by
        have h1' : (wr.alloc (.cells #[.int .i64 (i : Int)] 3)).drew.ownsRow base 3 1 (vs.getD j undef) (R.getD j []).length ((R.getD j []).map nV) := h1
        refine h1'.kept hg ?_
        have := h.dis j k' hj hk e
        rw [hvv] at this; exact this
      refine h2.kept hset ?_
      rcases h2.2 with ⟨e1, _⟩ | ⟨g, c, cur, e1, hgb, _⟩
      · rw [e1]; exact .inl rfl
      · rw [e1]; right; simp only [Value.ownBlock]; intro e; simp at e; have := h.lt; omega
  · intro a b ha hb hab
    rw [List.length_set] at ha hb
    rw [getD_set _ _ _ _ (by rw [h.len]; exact hk), getD_set _ _ _ _ (by rw [h.len]; exact hk)]
    have hlt : ∀ j, j < R.length → ∀ g, (vs.getD j undef).ownBlock = some g → g < wr.heap.size := by
      intro j hj g hgj
      rcases (h.own j hj).2 with ⟨e1, _⟩ | ⟨g', c, cur, e1, _, hgb, _⟩
      · rw [e1] at hgj; simp [Value.ownBlock] at hgj
      · rw [e1] at hgj; simp [Value.ownBlock] at hgj; subst hgj
        exact (Array.getElem?_eq_some_iff.1 hgb).1
    have key : ∀ j, j < R.length → j ≠ k' → (vs.getD j undef).ownBlock = none ∨ (vs.getD j undef).ownBlock ≠ some gg := by
      intro j hj hne
      cases hob : (vs.getD j undef).ownBlock with
      | none => exact .inl rfl
      | some g =>
        right
        intro e
        simp at e; subst e
        rcases hat with hat | hat
        · rcases h.dis j k' hj hk hne with h1 | h1
          · rw [hob] at h1; cases h1
          · rw [hvv, hob, hat] at h1; exact h1 rfl
        · have := hlt j hj g hob; omega
    by_cases e1 : a = k' <;> by_cases e2 : b = k'
    · omega
    · rw [if_pos e1, if_neg e2]
      right
      show some gg ≠ (vs.getD b undef).ownBlock
      rcases key b hb e2 with h1 | h1
      · rw [h1]; simp
      · exact Ne.symm h1
    · rw [if_neg e1, if_pos e2]
      exact key a ha e1
    · rw [if_neg e1, if_neg e2]
      exact h.dis a b ha hb hab
  · refine ⟨?_, ?_, ?_, ?_, fun b hb => hold b (by have := h.lt; omega) (by omega)⟩
    · exact hg.os
    · exact hg.tape
    · exact hg.output
    · show wr.heap.size ≤ (w1.heap.modify _ _).size
      rw [Array.size_modify]; omega

theorem MapIs.of_block {κ ν : Type} {ek : κ → Value} {ev : ν → Value} {W W' : World} {b : Nat} {l : List (κ × ν)} (h : MapIs ek ev W b l) (e : W'.heap[b]? = W.heap[b]?) : MapIs ek ev W' b l := by
  obtain ⟨es, c, h1, h2⟩ := h
  exact ⟨es, c, e.trans h1, h2⟩

/-- len(m) -/
theorem run_len_map {κ ν : Type} {ek : κ → Value} {ev : ν → Value} {P : Program} {T K E : TypeId} {W : World} {b : Nat} {l : List (κ × ν)} (h : MapIs ek ev W b l) (ht : P.underlying T = some (.map K E)) (ty : TypeId) :
    (Builtin.len_ #[T] ty #[.map (some b)]).run P W = .ok (.int .i64 (l.length : Nat)) W := by
  obtain ⟨es, c, h1, h2⟩ := h
  have h3 : es.size = l.length := by have := congrArg List.length h2; simpa using this
  rw [← h3]
  simp [Builtin.len_, run_underlying ht, run_getMap h1, goInt, Result.andThen]

theorem makeRows : ∀ (n : Nat), n ≤ 10000 → ∀ w, (Instr.makeSlice 75 (.int .i64 (n : Int)) (.int .i64 (n : Int))).run Tryz.prog w = .ok (.slice (some ⟨w.heap.size, 0, none⟩) n n) (w.alloc (.cells (madeCells #[.slice none 0 0] n) 26)) := fun n hn w =>
  run_make_row' 75 26 (.slice none 0 0) 24 Tryz.underlying75 (by kernel_rfl) rfl .i64 .i64 n (by omega) (by omega) w

/-- what norm.of returns: the law's cells, the map of places, the rows -/
structure NetIs (W : World) (B nb : Nat) (u1 u2 u3 : Value) (ids : List ByteArray) (rows : List (List Nat)) : Prop where
  blk : ∃ mb bb, Blk W nb 77 #[u1, u2, u3, .map (some mb), .slice (some ⟨bb, 0, none⟩) rows.length rows.length] ∧ MapIs Value.string (Value.int .i64) W mb (atK ids ids.length) ∧ (∃ base vs, RowsIs W base bb rows vs) ∧ B ≤ nb ∧ B ≤ mb ∧ B ≤ bb

/-- the world behind the first statement, in its two orders -/
theorem startA (W : World) (cs : Array Value) (n : Nat) {H : Nat} (hH : W.heap.size = H) :
    Hid (Below H W (((((W.alloc (.cells (madeCells #[.slice none 0 0] n) 26)).alloc (.map #[] 0)).alloc (.cells cs 77)).drew))) ∧ Hid (Blk ((((W.alloc (.cells (madeCells #[.slice none 0 0] n) 26)).alloc (.map #[] 0)).alloc (.cells cs 77)).drew) (H + 1 + 1) 77 cs) ∧
    Hid (MapIs Value.string (Value.int .i64) ((((W.alloc (.cells (madeCells #[.slice none 0 0] n) 26)).alloc (.map #[] 0)).alloc (.cells cs 77)).drew) (H + 1) []) ∧
    Hid (Blk ((((W.alloc (.cells (madeCells #[.slice none 0 0] n) 26)).alloc (.map #[] 0)).alloc (.cells cs 77)).drew) H 26 (madeCells #[.slice none 0 0] n)) := by
  subst hH
  refine ⟨((((Below.refl _ _).alloc (Nat.le_refl _) _).alloc (by simp) _).alloc (by simp; omega) _).drew, ?_, ?_, ?_⟩
  · have h := Blk.new ((W.alloc (.cells (madeCells #[.slice none 0 0] n) 26)).alloc (.map #[] 0)) 77 cs
    simp only [World.size_alloc] at h
    exact h
  · have h := (MapIs.made (ek := Value.string) (ev := Value.int .i64) (W.alloc (.cells (madeCells #[.slice none 0 0] n) 26))).alloc (.cells cs 77)
    rw [World.size_alloc] at h
    exact h
  · exact Blk.alloc (Blk.alloc (Blk.new W 26 _) _) _
theorem startB (W : World) (cs : Array Value) (n : Nat) {H : Nat} (hH : W.heap.size = H) :
    Hid (Below H W (((((W.alloc (.map #[] 0)).alloc (.cells (madeCells #[.slice none 0 0] n) 26)).alloc (.cells cs 77)).drew))) ∧ Hid (Blk ((((W.alloc (.map #[] 0)).alloc (.cells (madeCells #[.slice none 0 0] n) 26)).alloc (.cells cs 77)).drew) (H + 1 + 1) 77 cs) ∧
    Hid (MapIs Value.string (Value.int .i64) ((((W.alloc (.map #[] 0)).alloc (.cells (madeCells #[.slice none 0 0] n) 26)).alloc (.cells cs 77)).drew) H []) ∧
    Hid (Blk ((((W.alloc (.map #[] 0)).alloc (.cells (madeCells #[.slice none 0 0] n) 26)).alloc (.cells cs 77)).drew) (H + 1) 26 (madeCells #[.slice none 0 0] n)) := by
  subst hH
  refine ⟨((((Below.refl _ _).alloc (Nat.le_refl _) _).alloc (by simp) _).alloc (by simp; omega) _).drew, ?_, ?_, ?_⟩
  · have h := Blk.new ((W.alloc (.map #[] 0)).alloc (.cells (madeCells #[.slice none 0 0] n) 26)) 77 cs
    simp only [World.size_alloc] at h
    exact h
  · exact (MapIs.alloc (MapIs.alloc (MapIs.made W) _) _)
  · have h := Blk.alloc (Blk.new (W.alloc (.map #[] 0)) 26 (madeCells #[.slice none 0 0] n)) (.cells cs 77)
    rw [World.size_alloc] at h
    exact h

theorem Law.info : (Tryz.prog.info? 28).map (·.size) = some 3 := by kernel_rfl

set_option maxRecDepth 100000 in
set_option maxHeartbeats 4000000 in
theorem of_any (d : List Fa) (ps : List Pv) (v : Value) (w : World) (B : Nat) (hn : ps.length ≤ 1000) (hB : B ≤ w.heap.size) (hl : LawIn w B d ps v) (hex : ∀ p ∈ ps, p.except.length ≤ 40) :
    Calls Tryz.prog 32 #[v] w fun e w' => ∃ nb u1 u2 u3 ok, v = .agg #[u1, u2, u3] ∧ e = .returned (.tuple #[.pointer (some ⟨nb, 0, none⟩), .bool ok]) ∧ ok = decide ((atK (ps.map Pv.id) ps.length).length = ps.length) ∧
      NetIs w' w.heap.size nb u1 u2 u3 (ps.map Pv.id) (byK (atK (ps.map Pv.id) ps.length) (ps.map Pv.except) ps.length) ∧ Below w.heap.size w w' := by
  obtain ⟨u1, u2, asn, ns, cs, rfl, hd, hp⟩ := hl
  obtain ⟨ad, cd, rfl, d1, d2, _⟩ := SlIn.shape hd
  obtain ⟨ap, cp, rfl, p1, p2, _⟩ := SlIn.shape hp
  unfold maxLen at d2 p2
  have HP := Lib.hid hp
  have hmm := @run_makeMap Tryz.prog
  have hmr := fun w => makeRows ps.length (by omega) w
  clear hd hp
  go_enter Tryz.func32, Tryz.ntmps32
  go_upto_region 1 with (fail)
  go_cut [4] (fun s4 wx => ∃ nb mb bb, s4 = .pointer (some ⟨nb, 0, none⟩) ∧ Hid (mb ≠ bb ∧ mb ≠ nb ∧ bb ≠ nb ∧ w.heap.size < mb ∧ w.heap.size < bb ∧ w.heap.size < nb ∧ mb < w.heap.size + 4 ∧ bb < w.heap.size + 4 ∧ nb < w.heap.size + 4 ∧ w.heap.size + 4 ≤ wx.heap.size) ∧
     Hid (Below (w.heap.size + 1) (w.alloc (.cells #[.slice ad d.length cd, .slice ap ps.length cp, .slice asn ns cs] 28)) wx) ∧ Hid (Blk wx nb 77 #[.slice ad d.length cd, .slice ap ps.length cp, .slice asn ns cs, .map (some mb), .slice (some ⟨bb, 0, none⟩) ps.length ps.length]) ∧
     Hid (MapIs Value.string (Value.int .i64) wx mb []) ∧ Hid (Blk wx bb 26 (madeCells #[.slice none 0 0] ps.length)))
  case first =>
    go_wp2
    go_region
    · go_wp2
      go_meet
      exact ⟨w.heap.size + 1 + 1 + 1, w.heap.size + 1, w.heap.size + 1 + 1, rfl, ⟨by omega, by omega, by omega, by omega, by omega, by omega, by omega, by omega, by omega, by simp⟩, startB (w.alloc (.cells #[.slice ad d.length cd, .slice ap ps.length cp, .slice asn ns cs] 28)) _ ps.length (World.size_alloc _ _)⟩
    · go_wp2
      go_meet
      exact ⟨w.heap.size + 1 + 1 + 1, w.heap.size + 1 + 1, w.heap.size + 1, rfl, ⟨by omega, by omega, by omega, by omega, by omega, by omega, by omega, by omega, by omega, by simp⟩, startA (w.alloc (.cells #[.slice ad d.length cd, .slice ap ps.length cp, .slice asn ns cs] 28)) _ ps.length (World.size_alloc _ _)⟩
  case rest =>
    obtain ⟨nb, mb, bb, rfl, hne, hb0, hnb, hmb, hbb⟩ := hcut
    have hz0 := hb0.out.size
    simp only [World.size_alloc] at hz0
    obtain ⟨n1, n2, n3, n4, n5, n6, n7, n8, n9, n10⟩ := hne.out
    clear hmr hmm
    have hbx := Lib.hid (Blk.new w 28 #[.slice ad d.length cd, .slice ap ps.length cp, .slice asn ns cs])
    have c1 := (hb0.out.cell (p := ⟨w.heap.size, 1, none⟩) (by simp)).trans (show _ = some (Value.slice ap ps.length cp) from Blk.cell hbx.out 1)
    have HNE := hne
    have HIDS : Hid ((ps.map Pv.id).length = ps.length) := List.length_map ..
    clear hne
    go_wp2
    go_loopw [24] (fun i wr => ∃ k : Nat, k ≤ ps.length ∧ i = .int .i64 k ∧ Hid (MapIs Value.string (Value.int .i64) wr mb (atK (ps.map Pv.id) k)) ∧ Hid (Blk wr nb 77 #[.slice ad d.length cd, .slice ap ps.length cp, .slice asn ns cs, .map (some mb), .slice (some ⟨bb, 0, none⟩) ps.length ps.length]) ∧ Hid (Blk wr bb 26 (madeCells #[.slice none 0 0] ps.length)) ∧
      Hid (Below (w.heap.size + 1) (w.alloc (.cells #[.slice ad d.length cd, .slice ap ps.length cp, .slice asn ns cs] 28)) wr) ∧ w.heap.size + 4 ≤ wr.heap.size) (fun i _ => ps.length - (intOf i).toNat)
    case atStart => exact ⟨0, Nat.zero_le _, rfl, hmb, hnb, hbb, hb0, n10⟩
    case round =>
      obtain ⟨k, hk, rfl, hm, hnr, hbr, hbw, hsz⟩ := hrel
      have b0 := Lib.hid (((Below.refl w.heap.size w).alloc (Nat.le_refl _) (.cells #[.slice ad d.length cd, .slice ap ps.length cp, .slice asn ns cs] 28)).trans (hbw.out.mono (by omega)))
      by_cases hlt : k < ps.length
      · obtain ⟨b, off, rfl, hbB, ak, ck, ae, ce, hr, hf, he, hz⟩ := SlIn.at (HP.out.below PvR.kept (b0.out.mono hB)) k hlt
        have hgk : Hid ((ps.map Pv.id).getD k default = ps[k].id) := by show _ = _; simp [List.getD_eq_getElem?_getD, hlt]
        generalize hpk : ps[k] = p at *
        have HRG := Lib.hid hr
        have HPK := Lib.hid hpk
        clear hr hf he hz hpk
        go_wp2_with (first | ((with_reducible show wpList _ _ _ (⟨_, Op.load 49 (.tmp 27), _, _, _, _⟩ :: _) _ _); refine wpList_load_pv rfl (.tmp 27) rfl rfl p ak ck ae ce HRG.out Tryz.underlying49 rfl Pv.info ?_) | ((with_reducible show wpList _ _ _ (⟨_, Op.store 49 (.tmp 6) (.tmp 28), _, _, _, _⟩ :: _) _ _); refine wpList_store_pv rfl (.tmp 6) (.tmp 28) rfl p ak ck ae ce rfl rfl ?hs1 Pv.info ?_; (case hs1 => rfl); intro W1 hb1 hz1 hr1 hf1; have e1_0 := hr1 0 _ rfl; have HR1 := Lib.hid hr1; clear hr1))
        have hn1 := Blk.below hnr.out hb1
        have v3 : W1.cell? ⟨nb, 3, none⟩ = some (.map (some mb)) := hn1.cell 3
        obtain ⟨w', hrun, hm', hu⟩ := run_store MapStr.key Tryz.underlying74 (show MapIs Value.string (Value.int .i64) W1.drew mb (atK (ps.map Pv.id) k) from hm.out.below hb1.drew hm.out.lt) p.id (k : Int)
        have HB1 := Lib.hid hb1
        have HM := Lib.hid hm'
        have HU := Lib.hid hu
        have HN1 := Lib.hid hn1
        clear hb1 hm' hu hn1 hf1
        have hws := HU.out.size
        have hW1s : W1.heap.size = wr.heap.size + 1 := hz1
        have HB2 := Lib.hid (HU.out.below (B := w.heap.size + 1) (by omega))
        go_region
        all_goals go_wp2
        all_goals
          go_roundw
          case rel =>
            refine ⟨k + 1, by omega, by go_num, by show MapIs _ _ _ _ (ins _ _ _); rw [hgk.out]; exact HM.out, (HU.out.block _ (by omega)).trans HN1.out, (HU.out.block _ (by omega)).trans (Blk.below hbr.out HB1.out.drew), (hbw.out.trans (HB1.out.drew.mono (by omega))).trans HB2.out, ?_⟩
            rw [hws]; show _ ≤ W1.heap.size; omega
          case measure => simp [intOf]; omega
      · have hall : k = ps.length := by omega
        subst hall
        clear hk hlt
        have c1r := (hbw.out.cell (p := ⟨w.heap.size, 1, none⟩) (by simp)).trans (show _ = some (Value.slice ap ps.length cp) from Blk.cell hbx.out 1)
        have hR0 := RowsIs.start hbr.out (by omega : bb < wr.heap.size)
        have HR0 := Lib.hid hR0
        have HN := hnr
        have HM := hm
        have HBW := hbw
        clear hR0 hnr hm hbr hbw hb0 hnb hmb hbb c1
        go_wp2
        obtain ⟨ws, rfl⟩ : ∃ ws : World, ws = wr := ⟨_, rfl⟩
        go_loopw [40] (fun i wr => ∃ (k : Nat) (vs : List Value), k ≤ ps.length ∧ i = .int .i64 k ∧ Hid (MapIs Value.string (Value.int .i64) wr mb (atK (ps.map Pv.id) ps.length)) ∧ Hid (Blk wr nb 77 #[.slice ad d.length cd, .slice ap ps.length cp, .slice asn ns cs, .map (some mb), .slice (some ⟨bb, 0, none⟩) ps.length ps.length]) ∧
          Hid (RowsIs wr ws.heap.size bb (byK (atK (ps.map Pv.id) ps.length) (ps.map Pv.except) k) vs) ∧ Hid (Below (w.heap.size + 1) (w.alloc (.cells #[.slice ad d.length cd, .slice ap ps.length cp, .slice asn ns cs] 28)) wr) ∧ ws.heap.size ≤ wr.heap.size) (fun i _ => ps.length - (intOf i).toNat)
        case atStart => exact ⟨0, _, Nat.zero_le _, rfl, HM, HN, by rw [byK, List.length_map]; exact HR0, HBW, Nat.le_refl _⟩
        case round =>
          obtain ⟨k, vs, hk, rfl, hm, hnr, hrw, hbw, hsz2⟩ := hrel
          have b0 := Lib.hid (((Below.refl w.heap.size w).alloc (Nat.le_refl _) (.cells #[.slice ad d.length cd, .slice ap ps.length cp, .slice asn ns cs] 28)).trans (hbw.out.mono (by omega)))
          by_cases hlt : k < ps.length
          · obtain ⟨b, off, rfl, hbB, ak, ck, ae, ce, hr, hf, he, hz⟩ := SlIn.at (HP.out.below PvR.kept (b0.out.mono hB)) k hlt
            have hgk : Hid ((ps.map Pv.except).getD k [] = ps[k].except) := by show _ = _; simp [List.getD_eq_getElem?_getD, hlt]
            have hex30 := hex _ (List.getElem_mem hlt)
            generalize hpk : ps[k] = p at *
            obtain ⟨hce, hcm⟩ : p.except.length ≤ ce ∧ ce ≤ 9223372036854775807 := by
              obtain ⟨_, _, q1, q2, q3, _⟩ := SlIn.shape he
              cases q1; exact ⟨q2, q3⟩
            have HRG := Lib.hid hr
            have HPK := Lib.hid hpk
            have HE := Lib.hid he
            clear hr hf he hz hpk
            go_wp2_with (first | ((with_reducible show wpList _ _ _ (⟨_, Op.load 49 (.tmp 43), _, _, _, _⟩ :: _) _ _); refine wpList_load_pv rfl (.tmp 43) rfl rfl p ak ck ae ce HRG.out Tryz.underlying49 rfl Pv.info ?_) | ((with_reducible show wpList _ _ _ (⟨_, Op.store 49 (.tmp 8) (.tmp 44), _, _, _, _⟩ :: _) _ _); refine wpList_store_pv rfl (.tmp 8) (.tmp 44) rfl p ak ck ae ce rfl rfl ?hs1 Pv.info ?_; (case hs1 => rfl); intro W1 hb1 hz1 hr1 hf1; have e1_10 := hr1 10 _ rfl; have HR1 := Lib.hid hr1; clear hr1))
            have hn1 := Blk.below hnr.out hb1
            have hr1 := hrw.out.kept (grown_of_below hb1) (fun b e => by cases e)
            have HM1 := Lib.hid (hm.out.below hb1 hm.out.lt)
            have HE1 := Lib.hid (HE.out.below (hb1.mono (by omega)))
            have HBW1 := Lib.hid (hbw.out.trans (hb1.mono (by omega)))
            have HR1' := Lib.hid hr1
            have HN1 := Lib.hid hn1
            have HX := hrw
            clear hn1 hr1 hm hnr hrw hbw b0 HE hb1 hf1
            obtain ⟨wt, rfl⟩ : ∃ wt : World, wt = wr := ⟨_, rfl⟩
            go_loopw [48] (fun i wr => ∃ (j : Nat) (vs : List Value), j ≤ p.except.length ∧ i = .int .i64 j ∧ Hid (MapIs Value.string (Value.int .i64) wr mb (atK (ps.map Pv.id) ps.length)) ∧ Hid (Blk wr nb 77 #[.slice ad d.length cd, .slice (some ⟨b, off, none⟩) ps.length cp, .slice asn ns cs, .map (some mb), .slice (some ⟨bb, 0, none⟩) ps.length ps.length]) ∧
              Hid (RowsIs wr ws.heap.size bb ((p.except.take j).foldl (stepB (atK (ps.map Pv.id) ps.length) k) (byK (atK (ps.map Pv.id) ps.length) (ps.map Pv.except) k)) vs) ∧ Hid (Below (w.heap.size + 1) (w.alloc (.cells #[.slice ad d.length cd, .slice (some ⟨b, off, none⟩) ps.length cp, .slice asn ns cs] 28)) wr) ∧
              Hid (StrsIn wr B p.except (.slice ae p.except.length ce)) ∧ wt.heap.size < wr.heap.size) (fun i _ => p.except.length - (intOf i).toNat)
            case atStart => exact ⟨0, vs, Nat.zero_le _, rfl, HM1, HN1, HR1', HBW1, HE1, by omega⟩
            case round =>
              obtain ⟨j, vs', hj, rfl, hm, hnr, hrw, hbw, hes, hsz3⟩ := hrel
              by_cases hjl : j < p.except.length
              · obtain ⟨bx, ox, rfl, _, hcx⟩ := SlIn.one hes.out j hjl
                have hts : Hid (∀ at_ rows, (p.except.take (j + 1)).foldl (stepB at_ k) rows = stepB at_ k ((p.except.take j).foldl (stepB at_ k) rows) p.except[j]) := by
                  intro at_ rows
                  rw [List.take_succ_eq_append_getElem hjl, List.foldl_append]; rfl
                have hRl : ((p.except.take j).foldl (stepB (atK (ps.map Pv.id) ps.length) k) (byK (atK (ps.map Pv.id) ps.length) (ps.map Pv.except) k)).length = ps.length := by rw [foldB_len, byK_len, List.length_map]
                have hRb : ∀ k', (((p.except.take j).foldl (stepB (atK (ps.map Pv.id) ps.length) k) (byK (atK (ps.map Pv.id) ps.length) (ps.map Pv.except) k)).getD k' []).length ≤ 41000 := fun k' => by
                  have h1 := foldB_le (atK (ps.map Pv.id) ps.length) k k' (p.except.take j) (byK (atK (ps.map Pv.id) ps.length) (ps.map Pv.except) k)
                  have h2 := byK_le (atK (ps.map Pv.id) ps.length) (ps.map Pv.except) (fun l hl => by obtain ⟨q, hq, rfl⟩ := List.mem_map.1 hl; exact hex q hq) k' k
                  have h3 := List.length_take_le j p.except
                  omega
                have hst := hts.out (atK (ps.map Pv.id) ps.length) (byK (atK (ps.map Pv.id) ps.length) (ps.map Pv.except) k)
                generalize (p.except.take j).foldl (stepB (atK (ps.map Pv.id) ps.length) k) (byK (atK (ps.map Pv.id) ps.length) (ps.map Pv.except) k) = R at *
                generalize p.except[j] = id at *
                have m3 : wr.cell? ⟨nb, 3, none⟩ = some (.map (some mb)) := hnr.out.cell 3
                have m4 : wr.cell? ⟨nb, 4, none⟩ = some (.slice (some ⟨bb, 0, none⟩) ps.length ps.length) := hnr.out.cell 4
                have hlk := run_look_ok MapStr.key Tryz.underlying74 zero_int hm.out id
                have HST := Lib.hid hst
                have HRB := Lib.hid hRb
                have HRL := Lib.hid hRl
                clear hst hRb hRl hts
                cases hl : (atK (ps.map Pv.id) ps.length).lookup id with
                | none =>
                  rw [hl] at hlk
                  have HS2 := Lib.hid (show stepB (atK (ps.map Pv.id) ps.length) k R id = R by unfold stepB; rw [hl])
                  rw [HS2.out] at HST
                  have HM2 := hm
                  clear hl hm
                  go_wp2
                  go_roundw
                  case rel => exact ⟨j + 1, vs', by omega, by go_num, HM2, hnr, by rw [HST.out]; exact hrw, hbw, hes, hsz3⟩
                  case measure => simp [intOf]; omega
                | some x =>
                  obtain ⟨x0, xk, xe⟩ := atK_some _ _ id x hl
                  obtain ⟨k', rfl⟩ : ∃ k' : Nat, x = k' := ⟨x.toNat, by omega⟩
                  rw [Int.toNat_natCast] at xk
                  rw [hl] at hlk
                  have hS2 : stepB (atK (ps.map Pv.id) ps.length) k R id = addB R k' k := by unfold stepB; rw [hl]; simp
                  rw [hS2] at HST
                  have hk'R : k' < R.length := by rw [HRL.out]; exact xk
                  have hown := hrw.out.own k' hk'R
                  have m5 : wr.cell? ⟨bb, k', none⟩ = some (vs'.getD k' undef) := by
                    rw [hrw.out.blk.cell, List.getElem?_toArray, List.getD_eq_getElem?_getD, List.getElem?_eq_getElem (by rw [hrw.out.len]; exact hk'R)]; rfl
                  have HC := Lib.hid (containsInt_any _ (k : Int) _ wr wr.heap.size (own_ints hown (by have := hrw.out.lt; omega)))
                  have hcc := any_contains (R.getD k' []) k
                  rw [hcc] at HC
                  have hlen := HRB.out k'
                  have HM2 := hm
                  have HOWN := Lib.hid hown
                  generalize hvv : vs'.getD k' undef = vv at *
                  generalize hrow : R.getD k' [] = row at *
                  have HROW := Lib.hid hrow
                  have HVV := Lib.hid hvv
                  have k'0 : (0 : Int) ≤ (k' : Int) := Int.natCast_nonneg _
                  have k'1 : (k' : Int) < (ps.length : Int) := by omega
                  clear hl hm hown hcc hS2 hvv xe hrow
                  cases hct : row.contains k with
                  | true =>
                    have HS3 := Lib.hid (show addB R k' k = R by unfold addB; rw [HROW.out, if_pos hct])
                    rw [HS3.out] at HST
                    rw [hct] at HC
                    clear hct
                    go_wp2_with (go_at_call 52; refine HC.out.mono ?_; rintro e w3 ⟨rfl, rfl⟩)
                    go_roundw
                    case rel => exact ⟨j + 1, vs', by omega, by go_num, HM2, hnr, by rw [HST.out]; exact hrw, hbw, hes, hsz3⟩
                    case measure => simp [intOf]; omega
                  | false =>
                    rw [hct] at HC
                    obtain ⟨i0, hi0, hz0, hz1', hz2⟩ := info_parts intInfo
                    have hbl : bb < wr.heap.size := hrw.out.blk.lt
                    have hnl : nb < wr.heap.size := hnr.out.lt
                    have HS3 := Lib.hid (show addB R k' k = R.set k' (row ++ [k]) by unfold addB; rw [HROW.out, if_neg (by rw [hct]; simp)])
                    rw [HS3.out] at HST
                    clear hct
                    go_wp2_with (go_at_call 52; refine HC.out.mono ?_; rintro e w3 ⟨rfl, rfl⟩)
                    go_region_law (refine step_append_lies _ (by rfl) _ _ _ (by rfl) ws.heap.size 3 i0 _ 1 8 Tryz.underlying26 hi0 hz0 hz1' hz2 rfl (by omega) vv row.length _ (by rfl) ((HOWN.out.alloc _).drew) ⟨wr.heap.size, 0, none⟩ 1 1 [.int .i64 k] (by rfl) (by rfl) (World.news_of_block (cs := #[.int .i64 k]) (t := 3) (fr := (0, 0)) (heap_alloc_new wr _)) (by simp [Value.oneCell']) (by omega) (by unfold maxLen; omega) (by omega) (by simp; omega) (wr.heap.size + 1) (by simp) ?_; intro gg cap w1 hown1 hgrow hat hlt1; have hbk : Blk w1 bb 26 vs'.toArray := (hgrow.block bb (by have := hrw.out.blk.lt; show bb < (wr.alloc _).heap.size; rw [World.size_alloc]; omega) (own_far HOWN.out hrw.out.lt)).trans (Blk.alloc hrw.out.blk _); have hnk : Blk w1 nb 77 #[.slice ad d.length cd, .slice (some ⟨b, off, none⟩) ps.length cp, .slice asn ns cs, .map (some mb), .slice (some ⟨bb, 0, none⟩) ps.length ps.length] := (hgrow.block nb (by show nb < (wr.alloc _).heap.size; rw [World.size_alloc]; omega) (own_far HOWN.out (by omega))).trans (Blk.alloc hnr.out _); have s5 : w1.cell? ⟨bb, k', none⟩ = some vv := (blk_of hbk hrw.out.blk k').trans m5; have z5 := hbk.frozen k'; have s4 : w1.cell? ⟨nb, 4, none⟩ = some (.slice (some ⟨bb, 0, none⟩) ps.length ps.length) := hnk.cell 4)
                    all_goals
                      obtain ⟨g1, g2, g3⟩ := hrw.out.append hk'R HVV.out (by omega) hgrow (by rw [HROW.out]; exact hown1) hat
                      rw [HROW.out] at g1 g2 g3
                      have hg0 := g3.size
                      have HG1 := Lib.hid g1
                      have HG2 := Lib.hid g2
                      have HG3 := Lib.hid g3
                      clear g1 g2 g3 hgrow hown1 hat hbk hnk s5 z5 s4
                      go_wp2
                      go_roundw
                      case rel => exact ⟨j + 1, _, by omega, by go_num, MapIs.of_block HM2.out (HG2.out _ (by omega) n1), (HG2.out _ (by omega) (Ne.symm n3)).trans hnr.out, by rw [HST.out]; exact HG1.out, hbw.out.trans (HG3.out.mono (by omega)), hes.out.below (HG3.out.mono (by omega)), by omega⟩
                      case measure => simp [intOf]; omega
              · have hall : j = p.except.length := by omega
                subst hall
                have hby : Hid (byK (atK (ps.map Pv.id) ps.length) (ps.map Pv.except) (k + 1) = (p.except.take p.except.length).foldl (stepB (atK (ps.map Pv.id) ps.length) k) (byK (atK (ps.map Pv.id) ps.length) (ps.map Pv.except) k)) := by
                  show _ = _
                  rw [byK, hgk.out, List.take_length]
                have HM2 := hm
                clear hm hj hjl
                go_wp2
                go_roundw
                case rel => exact ⟨k + 1, vs', by omega, by go_num, HM2, hnr, by rw [hby.out]; exact hrw, hbw, by omega⟩
                case measure => simp [intOf]; omega
          · have hall : k = ps.length := by omega
            subst hall
            have m3 : wr.cell? ⟨nb, 3, none⟩ = some (.map (some mb)) := hnr.out.cell 3
            have c1r := (hbw.out.cell (p := ⟨w.heap.size, 1, none⟩) (by simp)).trans (show _ = some (Value.slice ap ps.length cp) from Blk.cell hbx.out 1)
            have hln := run_len_map (W := wr.drew) hm.out Tryz.underlying74 3
            have HM := hm
            clear hm hlt hk
            go_wp2
            go_region
            go_wp2
            go_ret2
            have hrl : (byK (atK (ps.map Pv.id) ps.length) (ps.map Pv.except) ps.length).length = ps.length := by rw [byK_len, List.length_map]
            refine ⟨nb, _, _, _, _, rfl, rfl, by rw [Bool.eq_iff_iff, beq_iff_eq, decide_eq_true_iff]; omega, ⟨mb, bb, ?_, ?_, ⟨_, vs, hrw.out.kept (grown_of_below (Below.refl _ _).drew) (fun b e => by cases e)⟩, by omega, by omega, by omega⟩, b0.out.drew⟩
            · rw [hrl]; exact hnr.out
            · rw [HIDS.out]; exact HM.out

end Go.Proofs.YtihpoecdnchioaaGreatDoor
