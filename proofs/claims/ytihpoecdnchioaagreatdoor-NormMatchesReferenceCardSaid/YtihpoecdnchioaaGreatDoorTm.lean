/- How the search for circles lies in memory; slices.Clone at ints. No conditions. -/
import Derived.Test.YtihpoecdnchioaaGreatDoorOf
import Derived.Test.YtihpoecdnchioaaGreatDoorPvRow
namespace Go.Proofs.YtihpoecdnchioaaGreatDoor
open Go.RowKit Tj

def iV (x : Int) : Value := .int .i64 x

/-- the map of numbers -/
def numF : Nat → List Nat → List (Int × Int)
  | _, [] => []
  | k, x :: l => ((x : Int), (k : Int)) :: numF (k + 1) l
theorem numF_len : ∀ (k : Nat) (l : List Nat), (numF k l).length = l.length
  | _, [] => rfl
  | k, x :: l => by simp [numF, numF_len (k + 1) l]
theorem numF_snoc : ∀ (k : Nat) (l : List Nat) (x : Nat), numF k (l ++ [x]) = numF k l ++ [((x : Int), ((k + l.length : Nat) : Int))]
  | k, [], x => by simp [numF]
  | k, y :: l, x => by
    rw [List.cons_append, numF, numF, numF_snoc (k + 1) l x, List.cons_append, List.length_cons]
    rw [show k + 1 + l.length = k + (l.length + 1) by omega]
theorem numF_lookup : ∀ (k : Nat) (l : List Nat) (x : Nat), (numF k l).lookup (x : Int) = if x ∈ l then some ((k + l.idxOf x : Nat) : Int) else none
  | k, [], x => by simp [numF]
  | k, y :: l, x => by
    rw [numF, List.lookup_cons]
    by_cases h : x = y
    · subst h; simp
    · have hf : ((x : Int) == (y : Int)) = false := by simp; omega
      rw [hf]
      simp only
      rw [numF_lookup (k + 1) l x]
      have hne : (y == x) = false := by simp; exact fun e => h e.symm
      by_cases hm : x ∈ l
      · rw [if_pos hm, if_pos (List.mem_cons_of_mem _ hm), List.idxOf_cons, hne]
        simp only [cond_false]
        rw [show k + 1 + l.idxOf x = k + (l.idxOf x + 1) by omega]
      · rw [if_neg hm, if_neg (by simp [h, hm])]

/-- what lies as it lay when the search began -/
structure Fr (w0 : World) (H : Nat) (W : World) : Prop where
  os : W.os = w0.os
  tape : W.tape = w0.tape
  output : W.output = w0.output
  size0 : w0.heap.size ≤ W.heap.size
  size : H + 10 ≤ W.heap.size
  fr : ∀ b, b < H + 10 → b ≠ H + 1 → b ≠ H + 2 → b ≠ H + 3 → b ≠ H + 4 → b ≠ H + 7 → W.heap[b]? = w0.heap[b]?

theorem Fr.grown {w0 W W' : World} {H : Nat} (h : Fr w0 H W) {row : Option Nat} (hg : W.grownBy W' row) (hr : ∀ b, row = some b → b = H + 1 ∨ b = H + 2 ∨ b = H + 3 ∨ b = H + 4 ∨ b = H + 7 ∨ H + 10 ≤ b) : Fr w0 H W' :=
  ⟨hg.os.trans h.os, hg.tape.trans h.tape, hg.output.trans h.output, Nat.le_trans h.size0 hg.size, Nat.le_trans h.size hg.size, fun b hb h1 h2 h3 h4 h7 =>
    (hg.block b (by have := h.size; omega) (fun e => by have := hr b e.symm; omega)).trans (h.fr b hb h1 h2 h3 h4 h7)⟩
theorem Fr.blk {w0 W : World} {H b : Nat} (h : Fr w0 H W) {t : TypeId} {cs : Array Value} (hb : Blk w0 b t cs) (hlt : b < H + 10) (h1 : b ≠ H + 1 := by omega) (h2 : b ≠ H + 2 := by omega) (h3 : b ≠ H + 3 := by omega) (h4 : b ≠ H + 4 := by omega) (h7 : b ≠ H + 7 := by omega) : Blk W b t cs :=
  (h.fr b hlt h1 h2 h3 h4 h7).trans hb
theorem Fr.below {w0 W : World} {H : Nat} (h : Fr w0 H W) : Below (H + 1) w0 W := ⟨h.os, h.tape, h.output, h.size0, fun b hb => h.fr b (by omega) (by omega) (by omega) (by omega) (by omega) (by omega)⟩
theorem Fr.start {w0 : World} {H : Nat} (h : H + 10 ≤ w0.heap.size) : Fr w0 H w0 := ⟨rfl, rfl, rfl, Nat.le_refl _, h, fun _ _ _ _ _ _ _ => rfl⟩

theorem MapIs.grown {κ ν : Type} {ek : κ → Value} {ev : ν → Value} {W W' : World} {b : Nat} {l : List (κ × ν)} (h : MapIs ek ev W b l) {row : Option Nat} (hg : W.grownBy W' row) (hne : some b ≠ row) : MapIs ek ev W' b l :=
  h.of_block (hg.block b h.lt hne)

/-- the stack -/
structure StkIs (W : World) (H : Nat) (st : List Nat) (v : Value) : Prop where
  blk : Blk W (H + 2) 26 #[v]
  own : W.ownsRow (H + 10) 3 1 v st.length (st.map nV)
theorem StkIs.grown {W W' : World} {H : Nat} {st : List Nat} {v : Value} (h : StkIs W H st v) {row : Option Nat} (hg : W.grownBy W' row) (h1 : some (H + 2) ≠ row) (h2 : v.ownBlock = none ∨ v.ownBlock ≠ row) : StkIs W' H st v :=
  ⟨h.blk.grown hg h1, h.own.kept hg h2⟩

/-- the groups that were found: a row of rows -/
structure OutIs (W : World) (H : Nat) (outs : List (List Int)) (u : Value) (vals : List Value) : Prop where
  blk : Blk W (H + 1) 75 #[u]
  own : W.ownsRow (H + 10) 26 1 u vals.length vals
  len : vals.length = outs.length
  rows : ∀ k, k < outs.length → W.ownsRow (H + 10) 3 1 (vals.getD k undef) (outs.getD k []).length ((outs.getD k []).map iV) ∧ outs.getD k [] ≠ []
theorem OutIs.grown {W W' : World} {H : Nat} {outs : List (List Int)} {u : Value} {vals : List Value} (h : OutIs W H outs u vals) {row : Option Nat} (hg : W.grownBy W' row) (h1 : some (H + 1) ≠ row) (h2 : u.ownBlock = none ∨ u.ownBlock ≠ row)
    (h3 : ∀ g ∈ vals, g.ownBlock = none ∨ g.ownBlock ≠ row) : OutIs W' H outs u vals :=
  ⟨h.blk.grown hg h1, h.own.kept hg h2, h.len, fun k hk => ⟨(h.rows k hk).1.kept hg (h3 _ (by rw [List.getD_eq_getElem?_getD, List.getElem?_eq_getElem (by rw [h.len]; exact hk)]; exact List.getElem_mem _)), (h.rows k hk).2⟩⟩

/-- the groups that are told, each in order -/
def outL (G : Nat → List Nat) (comps : List (List Nat)) : List (List Int) := (comps.filter (nontriv G)).map fun c => (c.map fun x : Nat => (x : Int)).mergeSort fun x y => decide (x ≤ y)

/-- the state of the search -/
structure TSt (w0 : World) (H : Nat) (G : Nat → List Nat) (s : TS) (W : World) : Prop where
  fr : Fr w0 H W
  num : MapIs (Value.int .i64) (Value.int .i64) W (H + 4) (numF 0 s.vis)
  low : ∃ l, MapIs (Value.int .i64) (Value.int .i64) W (H + 3) l ∧ ∀ x ∈ s.vis, l.lookup (x : Int) = some (s.low x : Int)
  on : ∃ l, MapIs (Value.int .i64) Value.bool W (H + 7) l ∧ ∀ x : Nat, (l.lookup (x : Int)).getD false = decide (x ∈ s.stack)
  mem : ∃ v u vals, StkIs W H s.stack v ∧ OutIs W H (outL G s.comps) u vals ∧ ∀ g ∈ vals, g.ownBlock = none ∨ g.ownBlock ≠ v.ownBlock

/-- what the closure reads: the boxes, the rows -/
structure TEnv (w0 : World) (H nb n : Nat) (rows : List (List Nat)) : Prop where
  size : H + 10 ≤ w0.heap.size
  len : rows.length = n
  low : Blk w0 (H + 5) 98 #[.map (some (H + 3))]
  num : Blk w0 (H + 6) 98 #[.map (some (H + 4))]
  on : Blk w0 (H + 8) 71 #[.map (some (H + 7))]
  net : Blk w0 H 70 #[.pointer (some ⟨nb, 0, none⟩)]
  vis : Blk w0 (H + 9) 99 #[.func (.func 53) #[] #[.pointer (some ⟨H + 6, 0, none⟩), .pointer (some ⟨H + 5, 0, none⟩), .pointer (some ⟨H + 2, 0, none⟩), .pointer (some ⟨H + 8, 0, none⟩), .pointer (some ⟨H, 0, none⟩), .pointer (some ⟨H + 9, 0, none⟩), .pointer (some ⟨H + 1, 0, none⟩)]]
  by_ : ∃ bb, bb < H ∧ nb < H ∧ w0.cell? ⟨nb, 4, none⟩ = some (.slice (some ⟨bb, 0, none⟩) n n) ∧ ∀ k, k < n → ∃ v, w0.cell? ⟨bb, k, none⟩ = some v ∧ IntsIn w0 H ((rows.getD k []).map fun x : Nat => (x : Int)) v

/-- the edges -/
def edg (rows : List (List Nat)) (i : Nat) : List Nat := rows.getD i []

set_option maxRecDepth 100000 in
set_option maxHeartbeats 400000 in
theorem clone_any (l : List Int) (ao : Option Addr) (cap : Nat) (w : World) (B base : Nat) (hne : l ≠ []) (hlen : l.length ≤ 10000) (hb : base ≤ w.heap.size) (hB : B ≤ w.heap.size) (hl : IntsIn w B l (.slice ao l.length cap)) :
    Calls Tryz.prog 55 #[.slice ao l.length cap] w fun e w' => ∃ v, e = .returned v ∧ w'.ownsRow base 3 1 v l.length (l.map iV) ∧ Below w.heap.size w w' ∧ (∃ g c, v = .slice (some ⟨g, 0, none⟩) l.length c ∧ w.heap.size ≤ g) := by
  obtain ⟨ao', cap', he, h1, h2, h4⟩ := hl
  obtain ⟨b, off, ha, hlt, hc⟩ := h4 hne
  cases he
  subst ha
  have hpos : 0 < l.length := List.length_pos_iff.2 hne
  obtain ⟨i0, hi0, hz0, hz1, hz2⟩ := info_parts intInfo
  have hown : (w.alloc (.cells #[] 3)).ownsRow base 3 1 (.slice (some ⟨w.heap.size, 0, none⟩) 0 0) 0 [] := ⟨rfl, .inr ⟨w.heap.size, 0, #[], rfl, hb, heap_alloc_new _ _, Nat.le_refl _, Nat.zero_le _, rfl, rfl⟩⟩
  have hnews : ∀ j u, (l.map iV)[j]? = some u → (w.alloc (.cells #[] 3)).cell? ((⟨b, off, none⟩ : Addr).add j) = some u := by
    intro j u hj
    rw [List.getElem?_map] at hj
    have hjl : j < l.length := by
      rcases Nat.lt_or_ge j l.length with h | h
      · exact h
      · rw [List.getElem?_eq_none h] at hj; cases hj
    rw [List.getElem?_eq_getElem hjl] at hj
    have h5 : w.cell? ⟨b, off + j * 1, none⟩ = some (.int .i64 l[j]) := hc j hjl
    rw [Nat.mul_one] at h5
    have hadd : (⟨b, off, none⟩ : Addr).add j = ⟨b, off + j, none⟩ := by unfold Addr.add; split <;> simp_all
    rw [hadd, World.cell?_alloc_past _ _ _ (by omega), h5]
    exact hj
  have hq := fun (w : World) => Lib.run_eql_slice_nil (P := Tryz.prog) w 26 3 (some ⟨b, off, none⟩) l.length cap 0 0 Tryz.underlying26
  have HN := Lib.hid hnews
  have HO := Lib.hid hown
  clear hc h4 hnews hown
  go_enter Tryz.func55, Tryz.ntmps55
  go_wp2_with (at_builtin; refine wpList_append_own_at _ rfl _ _ 26 rfl base 3 i0 _ 1 8 Tryz.underlying26 hi0 hz0 hz1 hz2 rfl (by decide) _ _ _ rfl HO.out ⟨b, off, none⟩ l.length cap (l.map iV) rfl (by simp) HN.out (by simp [iV, Value.oneCell']) (by unfold maxLen; omega) (by omega) (by simp; omega) ?_; intro v' w1 hown' hgrow hnil hat)
  have hb0 : Below w.heap.size w w1 := ((Below.refl w.heap.size w).alloc (Nat.le_refl _) (.cells #[] 3)).grown hgrow (by simp) (fun k e => by cases e; exact Nat.le_refl _)
  rw [Nat.zero_add, List.nil_append] at hown'
  obtain ⟨g, c, hv, _, _⟩ := hown'.form hpos
  go_ret
  refine ⟨v', rfl, hown', hb0, g, c, hv, ?_⟩
  rw [hv] at hat
  rcases hat with e | e
  · have : g = w.heap.size := Option.some.inj e
    omega
  · have : g = (w.alloc (.cells #[] 3)).heap.size := Option.some.inj e
    rw [World.size_alloc] at this
    omega

end Go.Proofs.YtihpoecdnchioaaGreatDoor
