/- A law's provisions as one flat row, and the cells of one of them turned in a row of the call's own. No conditions. -/
import Derived.Test.YtihpoecdnchioaaGreatDoorPvRow
namespace Go.Proofs.YtihpoecdnchioaaGreatDoor
open Go.RowKit

theorem range_app {w : World} {b o : Nat} {l m : List Value} (h1 : w.rangeAt b o l) (h2 : w.rangeAt b (o + l.length) m) : w.rangeAt b o (l ++ m) := by
  intro j v hj
  rcases Nat.lt_or_ge j l.length with h | h
  · rw [List.getElem?_append_left h] at hj; exact h1 j v hj
  · rw [List.getElem?_append_right h] at hj
    have := h2 (j - l.length) v hj
    rwa [show o + l.length + (j - l.length) = o + j by omega] at this

theorem pvs_flat {w : World} {B b : Nat} : ∀ (ps : List Pv) (off : Nat), (∀ i, ∀ h : i < ps.length, PvR w B ps[i] b (off + i * 23)) → ∃ xs : List PvA, xs.map (·.p) = ps ∧ (∀ x ∈ xs, x.Ok w B) ∧ w.rangeAt b off (xs.flatMap PvA.cells)
  | [], off, _ => ⟨[], rfl, (fun x h => nomatch h), (fun j v h => by cases h)⟩
  | p :: ps, off, h => by
    obtain ⟨xs, h1, h2, h3⟩ := pvs_flat ps (off + 23) (fun i hi => by
      have := h (i + 1) (by simpa using hi)
      rwa [List.getElem_cons_succ, show off + (i + 1) * 23 = off + 23 + i * 23 by omega] at this)
    obtain ⟨ak, ck, ae, ce, hr, hf, he, r⟩ := h 0 (by simp)
    simp only [List.getElem_cons_zero, Nat.zero_mul, Nat.add_zero] at hr hf he r
    refine ⟨⟨p, ak, ck, ae, ce⟩ :: xs, by rw [List.map_cons, h1], fun x hx => ?_, ?_⟩
    · rcases List.mem_cons.1 hx with rfl | hx
      · exact ⟨hf, he, r⟩
      · exact h2 x hx
    · rw [List.flatMap_cons]
      exact range_app hr h3

/-- the provisions of a law as one flat row -/
theorem pvs_rows {w : World} {B : Nat} {ps : List Pv} {ap : Option Addr} {n cp : Nat} (h : SlIn PvR 23 w B ps (.slice ap n cp)) (hne : ps ≠ []) :
    ∃ (b off : Nat) (xs : List PvA), ap = some ⟨b, off, none⟩ ∧ b < B ∧ xs.map PvA.p = ps ∧ (∀ x ∈ xs, x.Ok w B) ∧ w.rangeAt b off (xs.flatMap PvA.cells) := by
  obtain ⟨ao, cap, hv, _, _, h4⟩ := h
  obtain ⟨b, off, ha, hlt, hc⟩ := h4 hne
  simp only [Value.slice.injEq] at hv
  obtain ⟨xs, h1, h2, h3⟩ := pvs_flat ps off hc
  exact ⟨b, off, xs, by rw [hv.1, ha], hlt, h1, h2, h3⟩

theorem flat_len (xs : List PvA) : (xs.flatMap PvA.cells).length = xs.length * 23 := by
  induction xs with
  | nil => rfl
  | cons x xs ih => rw [List.flatMap_cons, List.length_append, ih, List.length_cons]; show 23 + _ = _; omega

/-- the news of an append out of a row that lies there -/
theorem news_range {w : World} {b o : Nat} {l : List Value} (h : w.rangeAt b o l) : ∀ j u, l[j]? = some u → w.cell? ((⟨b, o, none⟩ : Addr).add j) = some u := fun j u hj => by
  rw [Addr.add_mid]; exact h j u hj
theorem flat_one (xs : List PvA) : ∀ u ∈ xs.flatMap PvA.cells, u.oneCell' = true := fun u hu => by
  obtain ⟨x, _, h⟩ := List.mem_flatMap.1 hu
  exact pvC_ones _ _ _ _ _ u h

/-! ## a cell of a row of the call's own is turned -/

theorem own_set {W : World} {base e size n g cap : Nat} {xs : List Value} (h : W.ownsRow base e size (.slice (some ⟨g, 0, none⟩) n cap) n xs) (i : Nat) (u : Value) :
    (W.setCell ⟨g, i, none⟩ u).ownsRow base e size (.slice (some ⟨g, 0, none⟩) n cap) n (xs.set i u) := by
  refine ⟨by rw [List.length_set]; exact h.1, ?_⟩
  rcases h.2 with ⟨h0, _⟩ | ⟨g', cap', cur, hv, h1, h2, h3, h4, h5, h6⟩
  · cases h0
  · simp only [Value.slice.injEq, Option.some.injEq, Addr.mk.injEq, and_true, true_and] at hv
    obtain ⟨rfl, rfl⟩ := hv
    refine .inr ⟨g, cap, cur.setIfInBounds i u, rfl, h1, ?_, h3, h4, by rw [Array.size_setIfInBounds]; exact h5, ?_⟩
    · exact Blk.set (show Blk W g e cur from h2) i u
    · rw [Array.toList_setIfInBounds, List.take_set, h6]

theorem own_at {W : World} {base e size n g cap : Nat} {xs : List Value} (h : W.ownsRow base e size (.slice (some ⟨g, 0, none⟩) n cap) n xs) {i : Nat} {u : Value} (hi : xs[i]? = some u) : W.cell? ⟨g, i, none⟩ = some u ∧ W.frozen? ⟨g, i, none⟩ = false := by
  rcases h.2 with ⟨h0, _⟩ | ⟨g', cap', cur, hv, h1, h2, h3, h4, h5, h6⟩
  · cases h0
  · simp only [Value.slice.injEq, Option.some.injEq, Addr.mk.injEq, and_true, true_and] at hv
    obtain ⟨rfl, rfl⟩ := hv
    have hb : Blk W g e cur := h2
    refine ⟨?_, hb.frozen i⟩
    rw [hb.cell]
    rw [← h6] at hi
    have hlt : i < n * size := by
      rcases Nat.lt_or_ge i (n * size) with h | h
      · exact h
      · rw [List.getElem?_eq_none (by rw [List.length_take]; omega)] at hi; cases hi
    rw [List.getElem?_take_of_lt hlt, Array.getElem?_toList] at hi
    exact hi

theorem flat_set : ∀ (xs : List PvA) (i : Nat) (hi : i < xs.length) (j : Nat) (u : Value), j < 23 → (xs.flatMap PvA.cells).set (i * 23 + j) u = (xs.take i).flatMap PvA.cells ++ (xs[i].cells.set j u ++ (xs.drop (i + 1)).flatMap PvA.cells)
  | x :: xs, 0, _, j, u, hj => by
    rw [List.flatMap_cons]
    simp only [Nat.zero_mul, Nat.zero_add, List.take_zero, List.flatMap_nil, List.nil_append, List.getElem_cons_zero, List.drop_succ_cons, List.drop_zero]
    rw [List.set_append_left _ _ (by show _ < 23; omega)]
  | x :: xs, i + 1, hi, j, u, hj => by
    rw [List.flatMap_cons, List.set_append_right _ _ (by show 23 ≤ _; omega), show (i + 1) * 23 + j - x.cells.length = i * 23 + j by show _ - 23 = _; omega, flat_set xs i (by simpa using hi) j u hj]
    simp
/-- the cells of provision i, put together out of three parts -/
theorem flat_parts (xs : List PvA) (i : Nat) (hi : i < xs.length) : xs.flatMap PvA.cells = (xs.take i).flatMap PvA.cells ++ (xs[i].cells ++ (xs.drop (i + 1)).flatMap PvA.cells) := by
  conv => lhs; rw [← List.take_append_drop i xs, List.drop_eq_getElem_cons hi]
  rw [List.flatMap_append, List.flatMap_cons]
theorem parts_set (pre cs post : List Value) (i j : Nat) (u : Value) (hp : pre.length = i * 23) (hj : j < cs.length) : (pre ++ (cs ++ post)).set (i * 23 + j) u = pre ++ (cs.set j u ++ post) := by
  rw [List.set_append_right _ _ (by omega), show i * 23 + j - pre.length = j by omega, List.set_append_left _ _ hj]
theorem set_parts (xs : List PvA) (i : Nat) (hi : i < xs.length) (y : PvA) : (xs.set i y).flatMap PvA.cells = (xs.take i).flatMap PvA.cells ++ (y.cells ++ (xs.drop (i + 1)).flatMap PvA.cells) := by
  rw [List.set_eq_take_append_cons_drop, if_pos hi, List.flatMap_append, List.flatMap_cons]

/-- the five cells of a condition are turned -/
theorem own_cond {W : World} {base g cap : Nat} {xs : List PvA} (h : W.ownsRow base 49 23 (.slice (some ⟨g, 0, none⟩) xs.length cap) xs.length (xs.flatMap PvA.cells)) (i : Nat) (hi : i < xs.length) (f : Fo) (ak : Option Addr) (ck : Nat) :
    (((((W.setCell ⟨g, i * 23 + 5, none⟩ (.int .i64 f.op)).setCell ⟨g, i * 23 + 6, none⟩ (.string f.name)).setCell ⟨g, i * 23 + 7, none⟩ (.int .i64 f.cmp)).setCell ⟨g, i * 23 + 8, none⟩ (.int .i64 f.n)).setCell ⟨g, i * 23 + 9, none⟩ (.slice ak f.kids.length ck)).ownsRow base 49 23
      (.slice (some ⟨g, 0, none⟩) xs.length cap) xs.length ((xs.set i ⟨{ xs[i].p with cond := f }, ak, ck, xs[i].ae, xs[i].ce⟩).flatMap PvA.cells) := by
  have h5 := own_set (own_set (own_set (own_set (own_set h (i * 23 + 5) (.int .i64 f.op)) (i * 23 + 6) (.string f.name)) (i * 23 + 7) (.int .i64 f.cmp)) (i * 23 + 8) (.int .i64 f.n)) (i * 23 + 9) (.slice ak f.kids.length ck)
  have hp : ((xs.take i).flatMap PvA.cells).length = i * 23 := by rw [flat_len, List.length_take]; congr 1; omega
  rw [flat_parts xs i hi, parts_set _ _ _ _ _ _ hp (by show 5 < 23; decide), parts_set _ _ _ _ _ _ hp (by rw [List.length_set]; show 6 < 23; decide), parts_set _ _ _ _ _ _ hp (by rw [List.length_set, List.length_set]; show 7 < 23; decide),
    parts_set _ _ _ _ _ _ hp (by rw [List.length_set, List.length_set, List.length_set]; show 8 < 23; decide), parts_set _ _ _ _ _ _ hp (by rw [List.length_set, List.length_set, List.length_set, List.length_set]; show 9 < 23; decide)] at h5
  rw [set_parts xs i hi]
  exact h5
/-- the cell of the exceptions is turned -/
theorem own_exc {W : World} {base g cap : Nat} {xs : List PvA} (h : W.ownsRow base 49 23 (.slice (some ⟨g, 0, none⟩) xs.length cap) xs.length (xs.flatMap PvA.cells)) (i : Nat) (hi : i < xs.length) (es : List ByteArray) (ae : Option Addr) (ce : Nat) :
    (W.setCell ⟨g, i * 23 + 10, none⟩ (.slice ae es.length ce)).ownsRow base 49 23 (.slice (some ⟨g, 0, none⟩) xs.length cap) xs.length ((xs.set i ⟨{ xs[i].p with except := es }, xs[i].ak, xs[i].ck, ae, ce⟩).flatMap PvA.cells) := by
  have h5 := own_set h (i * 23 + 10) (.slice ae es.length ce)
  have hp : ((xs.take i).flatMap PvA.cells).length = i * 23 := by rw [flat_len, List.length_take]; congr 1; omega
  rw [flat_parts xs i hi, parts_set _ _ _ _ _ _ hp (by show 10 < 23; decide)] at h5
  rw [set_parts xs i hi]
  exact h5

end Go.Proofs.YtihpoecdnchioaaGreatDoor
