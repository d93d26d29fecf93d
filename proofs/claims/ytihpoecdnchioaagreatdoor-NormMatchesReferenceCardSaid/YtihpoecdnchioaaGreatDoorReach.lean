/- Single operations of a region that only reads, each with its value given; the walk of pandectref14.Reach: Warshall's way in place. A bound on the number of provisions. -/
import Derived.Test.YtihpoecdnchioaaGreatDoorMem2
import Derived.StillTailTactics
import Derived.Test.YtihpoecdnchioaaGreatDoorPl14
import Derived.BigQuiet
import Derived.Deep.RegionHeld3
namespace Go.Proofs.YtihpoecdnchioaaGreatDoor
open Go.RowKit

section
variable {P : Program} {ops : Array Oper} {w : World} {Q : Act → Prop} {a : Act} {o : Oper} {rest : List Oper}
/-- boxed, so that no unifier lays it open: at a guarded operation whose guard's value is known the goal would be reckoned on and on -/
structure BStill (P : Program) (ops : Array Oper) (w : World) (Q : Act → Prop) (l : List Oper) (a : Act) : Prop where
  out : wpStill P ops w Q l a
theorem bStill_nil (h : Q a) : BStill P ops w Q [] a := ⟨wpStill_nil h⟩
theorem bStill_skip (hw : Region.wanted o (yielded ops a.tmps) = false) (h : BStill P ops w Q rest (a.put o.dst undef)) : BStill P ops w Q (o :: rest) a := by
  refine ⟨wpStill_step fun K hK => ?_⟩
  rw [hw]
  exact hK _ h.out
theorem bStill_val (hw : Region.wanted o (yielded ops a.tmps) = true) (v : Value) (hrun : (execOp a.eval o).run P w = .ok (.value v) w) (h : BStill P ops w Q rest (a.put o.dst v)) : BStill P ops w Q (o :: rest) a := by
  refine ⟨wpStill_step fun K hK => ?_⟩
  rw [if_pos hw]
  show Oper.stillUpon P o a w K ((execOp a.eval o).run P w)
  rw [hrun, Oper.stillUpon_value]
  exact hK _ h.out
theorem bStill_move (hw : Region.wanted o (yielded ops a.tmps) = true) (x : Operand) (ho : o.op = .move x) (v : Value) (hv : a.eval x = v) (h : BStill P ops w Q rest (a.put o.dst v)) : BStill P ops w Q (o :: rest) a :=
  bStill_val hw v (by unfold execOp; simp only [ho, hv, Sem.run_pure]) h
theorem bStill_pick (hw : Region.wanted o (yielded ops a.tmps) = true) (c x y : Operand) (ho : o.op = .pick c x y) (b : Bool) (hc : a.eval c = .bool b) (v : Value) (hv : (if b then a.eval x else a.eval y) = v) (h : BStill P ops w Q rest (a.put o.dst v)) : BStill P ops w Q (o :: rest) a :=
  bStill_val hw v (by unfold execOp; simp only [ho, hc, asBool, Sem.run_bind, Sem.run_pure, Result.andThen_ok, hv]) h
theorem bStill_load (hw : Region.wanted o (yielded ops a.tmps) = true) (t : TypeId) (x : Operand) (ho : o.op = .load t x) (ad : Addr) (hx : a.eval x = .pointer (some ad)) (v : Value) (hr : (Instr.loadAt t (.pointer (some ad))).run P w = .ok v w) (h : BStill P ops w Q rest (a.put o.dst v)) : BStill P ops w Q (o :: rest) a :=
  bStill_val hw v (by unfold execOp; simp only [ho, hx, Sem.run_bind, hr, Sem.run_pure, Result.andThen_ok]) h
theorem bStill_index (hw : Region.wanted o (yielded ops a.tmps) = true) (t : TypeId) (x y : Operand) (ho : o.op = .indexAddr t x y) (u k : Value) (hx : a.eval x = u) (hy : a.eval y = k) (v : Value) (hr : (Instr.indexAt t u k).run P w = .ok v w) (h : BStill P ops w Q rest (a.put o.dst v)) : BStill P ops w Q (o :: rest) a :=
  bStill_val hw v (by unfold execOp; simp only [ho, hx, hy, Sem.run_bind, hr, Sem.run_pure, Result.andThen_ok]) h
end

theorem load_bool {w : World} {ad : Addr} {v : Value} (h : w.cell? ad = some v) : (Instr.loadAt 4 (.pointer (some ad))).run Tryz.prog w = .ok v w := by go_simp
theorem load_bools {w : World} {ad : Addr} {v : Value} (h : w.cell? ad = some v) : (Instr.loadAt 55 (.pointer (some ad))).run Tryz.prog w = .ok v w := by go_simp
theorem index_bools {w : World} {b n c i : Nat} (h : i < n) : (Instr.indexAt 55 (.slice (some ⟨b, 0, none⟩) n c) (.int .i64 (i : Int))).run Tryz.prog w = .ok (.pointer (some ⟨b, i, none⟩)) w := by
  have h0 : (0 : Int) ≤ (i : Int) := Int.natCast_nonneg _
  have h1 : (i : Int) < (n : Int) := by omega
  go_simp
theorem index_boolss {w : World} {b n c i : Nat} (h : i < n) : (Instr.indexAt 58 (.slice (some ⟨b, 0, none⟩) n c) (.int .i64 (i : Int))).run Tryz.prog w = .ok (.pointer (some ⟨b, i, none⟩)) w := by
  have h0 : (0 : Int) ≤ (i : Int) := Int.natCast_nonneg _
  have h1 : (i : Int) < (n : Int) := by omega
  go_simp

end Go.Proofs.YtihpoecdnchioaaGreatDoor

namespace Go.Proofs.YtihpoecdnchioaaGreatDoor
open Go.RowKit Tj

/-! ## Warshall's way in place -/

/-- the matrix inside stage m, at row i, column k -/
def fwAt (e : Nat → Nat → Bool) (m i k : Nat) (x y : Nat) : Bool := if x < i ∨ (x = i ∧ y < k) then fw e (m + 1) x y else fw e m x y
theorem fw_col (e : Nat → Nat → Bool) (m x : Nat) : fw e (m + 1) x m = fw e m x m := by
  show (fw e m x m || (fw e m x m && fw e m m m)) = _
  cases fw e m x m <;> cases fw e m m m <;> rfl
theorem fw_row (e : Nat → Nat → Bool) (m y : Nat) : fw e (m + 1) m y = fw e m m y := by
  show (fw e m m y || (fw e m m m && fw e m m y)) = _
  cases fw e m m m <;> cases fw e m m y <;> rfl
theorem fwAt_here (e : Nat → Nat → Bool) (m i k : Nat) : fwAt e m i k i k = fw e m i k := by unfold fwAt; rw [if_neg (by omega)]
theorem fwAt_col (e : Nat → Nat → Bool) (m i k x : Nat) : fwAt e m i k x m = fw e m x m := by
  unfold fwAt; split
  · exact fw_col e m x
  · rfl
theorem fwAt_row (e : Nat → Nat → Bool) (m i k y : Nat) : fwAt e m i k m y = fw e m m y := by
  unfold fwAt; split
  · exact fw_row e m y
  · rfl
theorem fwAt_next (e : Nat → Nat → Bool) (m i k x y : Nat) : fwAt e m i (k + 1) x y = if x = i ∧ y = k then (fwAt e m i k i k || (fwAt e m i k i m && fwAt e m i k m k)) else fwAt e m i k x y := by
  rw [fwAt_here, fwAt_col, fwAt_row]
  by_cases h : x = i ∧ y = k
  · obtain ⟨rfl, rfl⟩ := h
    rw [if_pos ⟨rfl, rfl⟩]
    unfold fwAt
    rw [if_pos (by omega)]
    rfl
  · rw [if_neg h]
    unfold fwAt
    by_cases h1 : x < i ∨ (x = i ∧ y < k)
    · rw [if_pos h1, if_pos (by omega)]
    · rw [if_neg h1, if_neg (by omega)]
theorem fwAt_rowEnd (e : Nat → Nat → Bool) (m i n x y : Nat) (hy : y < n) : fwAt e m i n x y = fwAt e m (i + 1) 0 x y := by
  unfold fwAt
  by_cases h : x < i ∨ (x = i ∧ y < n)
  · rw [if_pos h, if_pos (by omega)]
  · rw [if_neg h, if_neg (by omega)]
theorem fwAt_start (e : Nat → Nat → Bool) (m x y : Nat) : fwAt e m 0 0 x y = fw e m x y := by unfold fwAt; rw [if_neg (by omega)]
theorem fwAt_end (e : Nat → Nat → Bool) (m n x y : Nat) (hx : x < n) : fwAt e m n 0 x y = fw e (m + 1) x y := by unfold fwAt; rw [if_pos (Or.inl hx)]

/-! ## the matrix in memory -/

def obC (H n k : Nat) : Array Value := ((List.range n).map fun j => if j < k then Value.slice (some ⟨H + 2 + j, 0, none⟩) n n else .slice none 0 0).toArray
def rowB (n : Nat) (f : Nat → Bool) : Array Value := ((List.range n).map fun y => Value.bool (f y)).toArray
theorem obC_get {H n k j : Nat} (h : j < n) : (obC H n k)[j]? = some (if j < k then Value.slice (some ⟨H + 2 + j, 0, none⟩) n n else .slice none 0 0) := by
  unfold obC
  rw [List.getElem?_toArray, List.getElem?_map, List.getElem?_range h]; rfl
theorem rowB_get {n y : Nat} {f : Nat → Bool} (h : y < n) : (rowB n f)[y]? = some (.bool (f y)) := by
  unfold rowB
  rw [List.getElem?_toArray, List.getElem?_map, List.getElem?_range h]; rfl
theorem obC_size (H n k : Nat) : (obC H n k).size = n := by simp [obC]
theorem rowB_size (n : Nat) (f : Nat → Bool) : (rowB n f).size = n := by simp [rowB]
theorem obC_set {H n k : Nat} (_h : k < n) : (obC H n k).setIfInBounds k (.slice (some ⟨H + 2 + k, 0, none⟩) n n) = obC H n (k + 1) := by
  refine Array.ext (by simp [obC_size]) fun j h1 h2 => ?_
  have hj : j < n := by rw [obC_size] at h2; exact h2
  rw [Array.getElem_setIfInBounds (by rw [obC_size]; exact hj)]
  have e1 := obC_get (H := H) (k := k) hj
  have e2 := obC_get (H := H) (k := k + 1) hj
  rw [Array.getElem?_eq_getElem h2] at e2
  rw [Array.getElem?_eq_getElem (by rw [obC_size]; exact hj)] at e1
  rw [Option.some.inj e2]
  split
  · rename_i e; subst e; rw [if_pos (by omega)]
  · rename_i e
    rw [Option.some.inj e1]
    by_cases h3 : j < k
    · rw [if_pos h3, if_pos (by omega)]
    · rw [if_neg h3, if_neg (by omega)]
theorem rowB_set {n y : Nat} {f : Nat → Bool} (b : Bool) (_h : y < n) : (rowB n f).setIfInBounds y (.bool b) = rowB n (fun x => if x = y then b else f x) := by
  refine Array.ext (by simp [rowB_size]) fun j h1 h2 => ?_
  have hj : j < n := by rw [rowB_size] at h2; exact h2
  rw [Array.getElem_setIfInBounds (by rw [rowB_size]; exact hj)]
  have e1 := rowB_get (f := f) hj
  have e2 := rowB_get (f := fun x => if x = y then b else f x) hj
  rw [Array.getElem?_eq_getElem h2] at e2
  rw [Array.getElem?_eq_getElem (by rw [rowB_size]; exact hj)] at e1
  rw [Option.some.inj e2]
  split
  · rename_i e; subst e; simp
  · rename_i e
    rw [Option.some.inj e1, if_neg (Ne.symm e)]
theorem rowB_congr {n : Nat} {f g : Nat → Bool} (h : ∀ y, y < n → f y = g y) : rowB n f = rowB n g := by
  unfold rowB
  congr 1
  exact List.map_congr_left fun y hy => by rw [h y (List.mem_range.1 hy)]

def goneC' (n : Nat) : Array Value := rowB n fun _ => false

/-- k rows of the matrix f lie behind block H -/
structure Gr (wb W : World) (H n k : Nat) (f : Nat → Nat → Bool) : Prop where
  ob : Blk W (H + 1) 55 (obC H n k)
  rb : ∀ j, j < k → Blk W (H + 2 + j) 4 (rowB n (f j))
  sz : W.heap.size = H + 2 + k
  bel : Below (H + 1) wb W

theorem Gr.congr {wb W : World} {H n k : Nat} {f g : Nat → Nat → Bool} (h : Gr wb W H n k f) (e : ∀ j, j < k → ∀ y, y < n → f j y = g j y) : Gr wb W H n k g :=
  ⟨h.ob, fun j hj => by have := h.rb j hj; rwa [rowB_congr (e j hj)] at this, h.sz, h.bel⟩
theorem Gr.drewN {wb W : World} {H n k : Nat} {f : Nat → Nat → Bool} (h : Gr wb W H n k f) (q : Nat) : Gr wb (W.drewN q) H n k f := ⟨h.ob, h.rb, h.sz, h.bel.trans (World.drewN_below _ _ _)⟩
theorem Gr.cell {wb W : World} {H n k : Nat} {f : Nat → Nat → Bool} (h : Gr wb W H n k f) {j y : Nat} (hj : j < k) (hy : y < n) : W.cell? ⟨H + 2 + j, y, none⟩ = some (.bool (f j y)) := by rw [(h.rb j hj).cell, rowB_get hy]
theorem Gr.row {wb W : World} {H n k : Nat} {f : Nat → Nat → Bool} (h : Gr wb W H n k f) {j : Nat} (hj : j < k) (hk : k ≤ n) : W.cell? ⟨H + 1, j, none⟩ = some (.slice (some ⟨H + 2 + j, 0, none⟩) n n) := by
  rw [h.ob.cell, obC_get (by omega), if_pos hj]
/-- a row more, all false -/
theorem Gr.more {wb W : World} {H n k : Nat} {f : Nat → Nat → Bool} (h : Gr wb W H n k f) (hk : k < n) : Gr wb ((W.alloc (.cells (goneC' n) 4)).setCell ⟨H + 1, k, none⟩ (.slice (some ⟨H + 2 + k, 0, none⟩) n n)) H n (k + 1) (fun x y => if x < k then f x y else false) := by
  have hob : Blk (W.alloc (.cells (goneC' n) 4)) (H + 1) 55 (obC H n k) := Blk.below h.ob ((Below.refl _ _).alloc (Nat.le_refl _) _)
  refine ⟨by have := hob.set k (.slice (some ⟨H + 2 + k, 0, none⟩) n n); rwa [obC_set hk] at this, fun j hj => ?_, by simp [World.setCell, h.sz]; omega, (h.bel.alloc (by rw [h.sz]; omega) _).setCell (p := ⟨H + 1, k, none⟩) (Nat.le_refl _) _⟩
  by_cases e : j < k
  · have h2 : Blk (W.alloc (.cells (goneC' n) 4)) (H + 2 + j) 4 (rowB n (f j)) := Blk.below (h.rb j e) ((Below.refl _ _).alloc (Nat.le_refl _) _)
    have h3 : Blk ((W.alloc (.cells (goneC' n) 4)).setCell ⟨H + 1, k, none⟩ (.slice (some ⟨H + 2 + k, 0, none⟩) n n)) (H + 2 + j) 4 (rowB n (f j)) := (Below.heap_setCell _ _ _ _ (by show _ ≠ H + 1; omega)).trans h2
    simp only [if_pos e]
    exact h3
  · obtain rfl : j = k := by omega
    have h2 := Blk.new W 4 (goneC' n)
    rw [h.sz] at h2
    simp only [if_neg e]
    exact (Below.heap_setCell _ _ _ _ (by show _ ≠ H + 1; omega)).trans h2
/-- one cell is turned -/
theorem Gr.put {wb W : World} {H n k : Nat} {f : Nat → Nat → Bool} (h : Gr wb W H n k f) {i y : Nat} (b : Bool) (hi : i < k) (hy : y < n) : Gr wb (W.setCell ⟨H + 2 + i, y, none⟩ (.bool b)) H n k (fun x z => if x = i ∧ z = y then b else f x z) := by
  refine ⟨(Below.heap_setCell _ _ _ _ (by show H + 1 ≠ H + 2 + i; omega)).trans h.ob, fun j hj => ?_, by simp [World.setCell, h.sz], h.bel.setCell (p := ⟨H + 2 + i, y, none⟩) (by show H + 1 ≤ H + 2 + i; omega) _⟩
  by_cases e : j = i
  · subst e
    have h2 := (h.rb j hj).set y (.bool b)
    rw [rowB_set b hy] at h2
    rwa [rowB_congr (g := fun z => if j = j ∧ z = y then b else f j z) (fun z _ => by simp)] at h2
  · have h2 : Blk (W.setCell ⟨H + 2 + i, y, none⟩ (.bool b)) (H + 2 + j) 4 (rowB n (f j)) := (Below.heap_setCell _ _ _ _ (by show H + 2 + j ≠ H + 2 + i; omega)).trans (h.rb j hj)
    rwa [rowB_congr (g := fun z => if j = i ∧ z = y then b else f j z) (fun z _ => by simp [e])] at h2

theorem made_rows (n : Nat) : madeCells #[Value.slice none 0 0] n = obC 0 n 0 := by
  refine Array.ext (by simp [size_madeCells, obC_size]) fun i h1 h2 => ?_
  have hn : i < n := by rw [obC_size] at h2; exact h2
  have e1 : (madeCells #[Value.slice none 0 0] n)[i]? = some (.slice none 0 0) := by simp [madeCells, hn, Nat.mod_one]
  have e2 := obC_get (H := 0) (k := 0) hn
  rw [Array.getElem?_eq_getElem h1] at e1
  rw [Array.getElem?_eq_getElem h2] at e2
  rw [Option.some.inj e1, Option.some.inj e2, if_neg (by omega)]
theorem made_row (n : Nat) : madeCells #[Value.bool false] n = goneC' n := by
  refine Array.ext (by simp [size_madeCells, goneC', rowB_size]) fun i h1 h2 => ?_
  have hn : i < n := by unfold goneC' at h2; rw [rowB_size] at h2; exact h2
  have e1 : (madeCells #[Value.bool false] n)[i]? = some (.bool false) := by simp [madeCells, hn, Nat.mod_one]
  have e2 := rowB_get (f := fun _ => false) hn
  rw [Array.getElem?_eq_getElem h1] at e1
  have e3 : (goneC' n)[i]? = some (.bool false) := e2
  rw [Array.getElem?_eq_getElem h2] at e3
  rw [Option.some.inj e1, Option.some.inj e3]
theorem makeBRows (n : Nat) (h : n ≤ 10000) (w : World) : (Instr.makeSlice 58 (.int .i64 (n : Int)) (.int .i64 (n : Int))).run Tryz.prog w = .ok (.slice (some ⟨w.heap.size, 0, none⟩) n n) (w.alloc (.cells (obC 0 n 0) 55)) := by
  rw [← made_rows]
  exact run_make_row' 58 55 (.slice none 0 0) 24 Tryz.underlying58 (by kernel_rfl) rfl .i64 .i64 n (by omega) (by omega) w
theorem makeBRow (n : Nat) (h : n ≤ 10000) (w : World) (H : Nat) (hH : w.heap.size = H) : (Instr.makeSlice 55 (.int .i64 (n : Int)) (.int .i64 (n : Int))).run Tryz.prog w = .ok (.slice (some ⟨H, 0, none⟩) n n) (w.alloc (.cells (goneC' n) 4)) := by
  subst hH
  rw [← made_row]
  exact run_make_row' 55 4 (.bool false) 1 Tryz.underlying55 (by kernel_rfl) rfl .i64 .i64 n (by omega) (by omega) w
theorem obC_zero (H n : Nat) : obC H n 0 = obC 0 n 0 := by simp [obC]
theorem Gr.start (wb : World) (H n : Nat) (f : Nat → Nat → Bool) (h : wb.heap.size = H + 1) : Gr wb (wb.alloc (.cells (obC 0 n 0) 55)) H n 0 f := by
  have hb := Blk.new wb 55 (obC 0 n 0)
  rw [h, ← obC_zero H n] at hb
  exact ⟨by rw [← obC_zero H n]; exact hb, fun j hj => by omega, by simp [h], (Below.refl _ _).alloc (by omega) _⟩

theorem in_q2 {W : World} {B : Nat} {l : List ByteArray} {s : ByteArray} {v : Value} {b : Bool} (h : StrsIn W B l v) (hb : inB l s = b) : Calls Tryz.prog 21 #[v, .string s] W fun e w' => e = .returned (.bool b) ∧ w' = W := by
  refine (in_any l s v W B h).mono ?_
  rintro e w' ⟨rfl, rfl⟩
  exact ⟨by rw [hb], rfl⟩

section
set_option maxRecDepth 100000 in
set_option maxHeartbeats 8000000 in
theorem reach_any (d : List Fa) (ps : List Pv) (v : Value) (w : World) (B : Nat) (hn : ps.length ≤ 1000) (hB : B ≤ w.heap.size) (hl : LawIn w B d ps v) :
    Calls Tryz.prog 25 #[v] w fun e w' => e = .returned (.slice (some ⟨w.heap.size + 1, 0, none⟩) ps.length ps.length) ∧ (∃ wb, Gr wb w' w.heap.size ps.length ps.length (fw (excB ps) ps.length)) ∧ Below w.heap.size w w' := by
  obtain ⟨u1, u2, asn, ns, cs, rfl, hd, hp⟩ := hl
  obtain ⟨ad, cd, rfl, d1, d2, _⟩ := SlIn.shape hd
  obtain ⟨ap, cp, rfl, p1, p2, _⟩ := SlIn.shape hp
  unfold maxLen at p2
  have hbw : Below w.heap.size w (w.alloc (.cells #[.slice ad d.length cd, .slice ap ps.length cp, .slice asn ns cs] 28)) := (Below.refl _ _).alloc (Nat.le_refl _) _
  have K0 := Blk.new w 28 #[.slice ad d.length cd, .slice ap ps.length cp, .slice asn ns cs]
  have x1 : (w.alloc (.cells #[.slice ad d.length cd, .slice ap ps.length cp, .slice asn ns cs] 28)).cell? ⟨w.heap.size, 1, none⟩ = some (.slice ap ps.length cp) := K0.cell 1
  have hmk1 := fun w => makeBRows ps.length (by omega) w
  have HBW := Lib.hid hbw
  have HX1 := Lib.hid x1
  have HP := Lib.hid hp
  have HWS : Hid ((w.alloc (.cells #[.slice ad d.length cd, .slice ap ps.length cp, .slice asn ns cs] 28)).heap.size = w.heap.size + 1) := by show _ = _; simp
  have HEX : Hid (∀ i k, ∀ (h1 : i < ps.length) (h2 : k < ps.length), excB ps i k = inB ps[i].except ps[k].id) := fun i k h1 h2 => by unfold excB; rw [idAt_eq h2]; simp [List.getD_eq_getElem?_getD, h1]
  generalize excB ps = ex at *
  clear hd hp hbw K0
  go_enter Tryz.func25, Tryz.ntmps25
  go_wp2
  clear hmk1
  go_loopw [5] (fun iv wr => ∃ i : Nat, i ≤ ps.length ∧ iv = .int .i64 i ∧ Hid (Gr (w.alloc (.cells #[.slice ad d.length cd, .slice ap ps.length cp, .slice asn ns cs] 28)) wr w.heap.size ps.length i ex)) (fun iv _ => ps.length - (intOf iv).toNat)
  case atStart => exact ⟨0, Nat.zero_le _, rfl, Gr.start _ _ _ _ HWS.out⟩
  case round =>
    rename World => wq
    obtain ⟨i, hi, rfl, hgr⟩ := hrel
    by_cases hlt : i < ps.length
    · have HSZ := Lib.hid hgr.out.sz
      have hmk2 := makeBRow ps.length (by omega) wq _ HSZ.out
      have c1 : (wq.alloc (.cells (goneC' ps.length) 4)).cell? ⟨w.heap.size + 1, i, none⟩ = some (.slice none 0 0) := by
        rw [(hgr.out.ob.below ((Below.refl _ _).alloc (Nat.le_refl _) _)).cell i, obC_get hlt, if_neg (by omega)]
      have f1 : (wq.alloc (.cells (goneC' ps.length) 4)).frozen? ⟨w.heap.size + 1, i, none⟩ = false := (hgr.out.ob.below ((Below.refl _ _).alloc (Nat.le_refl _) _)).frozen i
      have i0 : (0 : Int) ≤ (i : Int) := Int.natCast_nonneg _
      have i1 : (i : Int) < (ps.length : Int) := by omega
      have HGR := hgr
      clear hgr
      go_wp2
      clear hmk2 c1 f1
      go_loopw [6] (fun kv wr => ∃ k : Nat, k ≤ ps.length ∧ kv = .int .i64 k ∧ Hid (Gr (w.alloc (.cells #[.slice ad d.length cd, .slice ap ps.length cp, .slice asn ns cs] 28)) wr w.heap.size ps.length (i + 1) (fun x y => if x < i then ex x y else decide (y < k) && ex i y))) (fun kv _ => ps.length - (intOf kv).toNat)
      case atStart => exact ⟨0, Nat.zero_le _, rfl, (HGR.out.more hlt).congr fun j hj y hy => by
        by_cases e : j < i
        · rw [if_pos e, if_pos e]
        · rw [if_neg e, if_neg e]; simp⟩
      case round =>
        obtain ⟨k, hk, rfl, hgr⟩ := hrel
        by_cases hkl : k < ps.length
        · obtain ⟨b, off, rfl, hbB, ak, ck, ae, ce, hr, _, he, _⟩ := SlIn.at HP.out i hlt
          obtain ⟨_, _, ak2, ck2, ae2, ce2, hr2, _⟩ := SlIn.get HP.out k hkl
          have hbl : Below w.heap.size w wr := HBW.out.trans (hgr.out.bel.mono (by omega))
          have e1 := (hbl.cell (p := ⟨b, off + i * 23 + 10, none⟩) (by simp; omega)).trans (hr 10 _ rfl)
          have e2 := (hbl.cell (p := ⟨b, off + k * 23 + 0, none⟩) (by simp; omega)).trans (hr2 0 _ rfl)
          rw [Nat.add_zero] at e2
          have y1 := (hgr.out.bel.cell (p := ⟨w.heap.size, 1, none⟩) (by simp)).trans HX1.out
          have hob := hgr.out.row (Nat.lt_succ_self i) (by omega)
          have hck := hgr.out.cell (Nat.lt_succ_self i) hkl
          have hfz := (hgr.out.rb i (Nat.lt_succ_self i)).frozen k
          have hx := HEX.out i k hlt hkl
          have hE := StrsIn.below (hbl.mono hB) he
          generalize ps[i].except = pe at *
          generalize ps[k].id = pid at *
          obtain ⟨xe, hxe⟩ : ∃ xe, inB pe pid = xe := ⟨_, rfl⟩
          rw [hxe] at hx
          have CE := Lib.hid (in_q2 (W := wr.drew) (s := pid) (hE.below (World.drewN_below _ _ 1)) hxe)
          have k0 : (0 : Int) ≤ (k : Int) := Int.natCast_nonneg _
          have k1 : (k : Int) < (ps.length : Int) := by omega
          have HXE := Lib.hid hx
          have HGR2 := hgr
          simp only [Nat.lt_irrefl, if_false, decide_false, Bool.false_and] at hck
          have hck2 : wr.cell? ⟨w.heap.size + 2 + i, k, none⟩ = some (.bool false) := hck
          clear hr hr2 he hbl hx hE hxe hgr hck
          go_wp2
          refine wp_region_still_tail 19 (by kernel_rfl) (by kernel_rfl) ?_
          simp only [List.take_succ_cons, List.take_zero, List.drop_succ_cons, List.drop_zero]
          iterate 17 still_step
          still_call CE.out
          still_step
          refine wpStill_nil ?_
          change wpList _ _ _ _ _ wr.drew
          go_wp2
          go_roundw
          case rel =>
            refine ⟨k + 1, by omega, by go_num, ?_⟩
            refine ((HGR2.out.drewN 1).put xe (Nat.lt_succ_self i) hkl).congr fun j hj y hy => ?_
            by_cases e : j < i
            · rw [if_neg (by omega), if_pos e, if_pos e]
            · rw [if_neg e, if_neg e]
              have hji : j = i := by omega
              by_cases e2 : y = k
              · subst e2; rw [if_pos ⟨hji, rfl⟩, HXE.out]; simp
              · rw [if_neg (by omega)]
                congr 1
                rw [decide_eq_decide]
                omega
          case measure => simp [intOf]; omega
        · have hkn : k = ps.length := by omega
          subst hkn
          have HGR2 := hgr
          clear hgr hk hkl
          go_wp2
          go_roundw
          case rel =>
            refine ⟨i + 1, by omega, by go_num, HGR2.out.congr fun j hj y hy => ?_⟩
            by_cases e : j < i
            · rw [if_pos e]
            · rw [if_neg e, show j = i by omega]; simp [hy]
          case measure => simp [intOf]; omega
    · have hin : i = ps.length := by omega
      subst hin
      have HGR := hgr
      clear hgr hi hlt
      go_wp2
      go_loopw [7] (fun mv wr => ∃ m : Nat, m ≤ ps.length ∧ mv = .int .i64 m ∧ Hid (Gr (w.alloc (.cells #[.slice ad d.length cd, .slice ap ps.length cp, .slice asn ns cs] 28)) wr w.heap.size ps.length ps.length (fw ex m))) (fun mv _ => ps.length - (intOf mv).toNat)
      case atStart => exact ⟨0, Nat.zero_le _, rfl, HGR⟩
      case round =>
        rename World => wA
        obtain ⟨m, hm, rfl, hga⟩ := hrel
        by_cases hml : m < ps.length
        · have HGA := hga
          have m0 : (0 : Int) ≤ (m : Int) := Int.natCast_nonneg _
          have m1 : (m : Int) < (ps.length : Int) := by omega
          clear hga
          go_wp2
          go_loopw [8] (fun iv wr => ∃ i : Nat, i ≤ ps.length ∧ iv = .int .i64 i ∧ Hid (Gr (w.alloc (.cells #[.slice ad d.length cd, .slice ap ps.length cp, .slice asn ns cs] 28)) wr w.heap.size ps.length ps.length (fwAt ex m i 0))) (fun iv _ => ps.length - (intOf iv).toNat)
          case atStart => exact ⟨0, Nat.zero_le _, rfl, HGA.out.congr fun j _ y _ => (fwAt_start ex m j y).symm⟩
          case round =>
            rename World => wB
            obtain ⟨i, hi, rfl, hgb⟩ := hrel
            by_cases hil : i < ps.length
            · have HGB := hgb
              have i0 : (0 : Int) ≤ (i : Int) := Int.natCast_nonneg _
              have i1 : (i : Int) < (ps.length : Int) := by omega
              clear hgb
              go_wp2
              go_loopw [9] (fun kv wr => ∃ k : Nat, k ≤ ps.length ∧ kv = .int .i64 k ∧ Hid (Gr (w.alloc (.cells #[.slice ad d.length cd, .slice ap ps.length cp, .slice asn ns cs] 28)) wr w.heap.size ps.length ps.length (fwAt ex m i k))) (fun kv _ => ps.length - (intOf kv).toNat)
              case atStart => exact ⟨0, Nat.zero_le _, rfl, HGB⟩
              case round =>
                obtain ⟨k, hk, rfl, hgr⟩ := hrel
                by_cases hkl : k < ps.length
                · have ri := hgr.out.row hil (Nat.le_refl _)
                  have rm := hgr.out.row hml (Nat.le_refl _)
                  have ca := hgr.out.cell hil hkl
                  have cb := hgr.out.cell hil hml
                  have cc := hgr.out.cell hml hkl
                  have hfz := (hgr.out.rb i hil).frozen k
                  have hnx := fwAt_next ex m i k
                  generalize fwAt ex m i k i k = va at *
                  generalize fwAt ex m i k i m = vb at *
                  generalize fwAt ex m i k m k = vc at *
                  have k0 : (0 : Int) ≤ (k : Int) := Int.natCast_nonneg _
                  have k1 : (k : Int) < (ps.length : Int) := by omega
                  have HGR2 := hgr
                  have HNX := Lib.hid hnx
                  clear hgr hnx
                  cases va with
                  | true =>
                    go_wp2
                    (refine wp_region_still_tail 31 (by kernel_rfl) (by kernel_rfl) ?_; simp only [List.take_succ_cons, List.take_zero, List.drop_succ_cons, List.drop_zero]; (iterate 12 still_step); refine BStill.out (l := _) ?_)
                    (refine bStill_move ?hw (.tmp 75) rfl (.bool true) ?hv ?_; (case hw => kernel_rfl); (case hv => kernel_rfl); simp only [Act.put, List.setIfInBounds_toArray, List.set_cons_zero, List.set_cons_succ])
                    iterate 16 (refine bStill_skip ?hw ?_; (case hw => kernel_rfl); simp only [Act.put, List.setIfInBounds_toArray, List.set_cons_zero, List.set_cons_succ])
                    (refine bStill_pick ?hw (.tmp 76) (.const (.bool true)) (.tmp 92) rfl (true) ?hc (.bool true) ?hv ?_; (case hw => kernel_rfl); (case hc => kernel_rfl); (case hv => kernel_rfl); simp only [Act.put, List.setIfInBounds_toArray, List.set_cons_zero, List.set_cons_succ])
                    ((refine bStill_index ?hw 55 (.tmp 67) (.tmp 68) rfl (.slice (some ⟨w.heap.size + 2 + i, 0, none⟩) ps.length ps.length) (.int .i64 k) ?hx ?hy (.pointer (some ⟨w.heap.size + 2 + i, k, none⟩)) (index_bools hkl) ?_; (case hw => kernel_rfl); (case hx => kernel_rfl); (case hy => kernel_rfl); simp only [Act.put, List.setIfInBounds_toArray, List.set_cons_zero, List.set_cons_succ]); refine bStill_nil ?_; change wpList _ _ _ _ _ wr.drew; go_wp2)
                    go_roundw
                    case rel => exact ⟨k + 1, by omega, by go_num, ((HGR2.out.drewN 1).put true hil hkl).congr fun j _ y _ => by rw [HNX.out j y]; rfl⟩
                    case measure => simp [intOf]; omega
                  | false =>
                    cases vb with
                    | false =>
                      go_wp2
                      (refine wp_region_still_tail 31 (by kernel_rfl) (by kernel_rfl) ?_; simp only [List.take_succ_cons, List.take_zero, List.drop_succ_cons, List.drop_zero]; (iterate 12 still_step); refine BStill.out (l := _) ?_)
                      (refine bStill_move ?hw (.tmp 75) rfl (.bool false) ?hv ?_; (case hw => kernel_rfl); (case hv => kernel_rfl); simp only [Act.put, List.setIfInBounds_toArray, List.set_cons_zero, List.set_cons_succ])
                      ((refine bStill_move ?hw (.tmp 4) rfl (.slice (some ⟨w.heap.size + 1, 0, none⟩) ps.length ps.length) ?hv ?_; (case hw => kernel_rfl); (case hv => kernel_rfl); simp only [Act.put, List.setIfInBounds_toArray, List.set_cons_zero, List.set_cons_succ]); (refine bStill_move ?hw (.tmp 8) rfl (.int .i64 i) ?hv ?_; (case hw => kernel_rfl); (case hv => kernel_rfl); simp only [Act.put, List.setIfInBounds_toArray, List.set_cons_zero, List.set_cons_succ]); (refine bStill_index ?hw 58 (.tmp 77) (.tmp 78) rfl (.slice (some ⟨w.heap.size + 1, 0, none⟩) ps.length ps.length) (.int .i64 i) ?hx ?hy (.pointer (some ⟨w.heap.size + 1, i, none⟩)) (index_boolss hil) ?_; (case hw => kernel_rfl); (case hx => kernel_rfl); (case hy => kernel_rfl); simp only [Act.put, List.setIfInBounds_toArray, List.set_cons_zero, List.set_cons_succ]); (refine bStill_load ?hw 55 (.tmp 79) rfl (⟨w.heap.size + 1, i, none⟩) ?hx (.slice (some ⟨w.heap.size + 2 + i, 0, none⟩) ps.length ps.length) (load_bools ri) ?_; (case hw => kernel_rfl); (case hx => kernel_rfl); simp only [Act.put, List.setIfInBounds_toArray, List.set_cons_zero, List.set_cons_succ]); (refine bStill_move ?hw (.tmp 7) rfl (.int .i64 m) ?hv ?_; (case hw => kernel_rfl); (case hv => kernel_rfl); simp only [Act.put, List.setIfInBounds_toArray, List.set_cons_zero, List.set_cons_succ]); (refine bStill_index ?hw 55 (.tmp 80) (.tmp 81) rfl (.slice (some ⟨w.heap.size + 2 + i, 0, none⟩) ps.length ps.length) (.int .i64 m) ?hx ?hy (.pointer (some ⟨w.heap.size + 2 + i, m, none⟩)) (index_bools hml) ?_; (case hw => kernel_rfl); (case hx => kernel_rfl); (case hy => kernel_rfl); simp only [Act.put, List.setIfInBounds_toArray, List.set_cons_zero, List.set_cons_succ]))
                      (refine bStill_load ?hw 4 (.tmp 82) rfl (⟨w.heap.size + 2 + i, m, none⟩) ?hx (.bool false) (load_bool cb) ?_; (case hw => kernel_rfl); (case hx => kernel_rfl); simp only [Act.put, List.setIfInBounds_toArray, List.set_cons_zero, List.set_cons_succ])
                      (refine bStill_move ?hw (.tmp 83) rfl (.bool false) ?hv ?_; (case hw => kernel_rfl); (case hv => kernel_rfl); simp only [Act.put, List.setIfInBounds_toArray, List.set_cons_zero, List.set_cons_succ])
                      iterate 7 (refine bStill_skip ?hw ?_; (case hw => kernel_rfl); simp only [Act.put, List.setIfInBounds_toArray, List.set_cons_zero, List.set_cons_succ])
                      (refine bStill_pick ?hw (.tmp 84) (.tmp 91) (.const (.bool false)) rfl (false) ?hc (.bool false) ?hv ?_; (case hw => kernel_rfl); (case hc => kernel_rfl); (case hv => kernel_rfl); simp only [Act.put, List.setIfInBounds_toArray, List.set_cons_zero, List.set_cons_succ])
                      (refine bStill_pick ?hw (.tmp 76) (.const (.bool true)) (.tmp 92) rfl (false) ?hc (.bool false) ?hv ?_; (case hw => kernel_rfl); (case hc => kernel_rfl); (case hv => kernel_rfl); simp only [Act.put, List.setIfInBounds_toArray, List.set_cons_zero, List.set_cons_succ])
                      ((refine bStill_index ?hw 55 (.tmp 67) (.tmp 68) rfl (.slice (some ⟨w.heap.size + 2 + i, 0, none⟩) ps.length ps.length) (.int .i64 k) ?hx ?hy (.pointer (some ⟨w.heap.size + 2 + i, k, none⟩)) (index_bools hkl) ?_; (case hw => kernel_rfl); (case hx => kernel_rfl); (case hy => kernel_rfl); simp only [Act.put, List.setIfInBounds_toArray, List.set_cons_zero, List.set_cons_succ]); refine bStill_nil ?_; change wpList _ _ _ _ _ wr.drew; go_wp2)
                      go_roundw
                      case rel => exact ⟨k + 1, by omega, by go_num, ((HGR2.out.drewN 1).put false hil hkl).congr fun j _ y _ => by rw [HNX.out j y]; rfl⟩
                      case measure => simp [intOf]; omega
                    | true =>
                      go_wp2
                      (refine wp_region_still_tail 31 (by kernel_rfl) (by kernel_rfl) ?_; simp only [List.take_succ_cons, List.take_zero, List.drop_succ_cons, List.drop_zero]; (iterate 12 still_step); refine BStill.out (l := _) ?_)
                      (refine bStill_move ?hw (.tmp 75) rfl (.bool false) ?hv ?_; (case hw => kernel_rfl); (case hv => kernel_rfl); simp only [Act.put, List.setIfInBounds_toArray, List.set_cons_zero, List.set_cons_succ])
                      ((refine bStill_move ?hw (.tmp 4) rfl (.slice (some ⟨w.heap.size + 1, 0, none⟩) ps.length ps.length) ?hv ?_; (case hw => kernel_rfl); (case hv => kernel_rfl); simp only [Act.put, List.setIfInBounds_toArray, List.set_cons_zero, List.set_cons_succ]); (refine bStill_move ?hw (.tmp 8) rfl (.int .i64 i) ?hv ?_; (case hw => kernel_rfl); (case hv => kernel_rfl); simp only [Act.put, List.setIfInBounds_toArray, List.set_cons_zero, List.set_cons_succ]); (refine bStill_index ?hw 58 (.tmp 77) (.tmp 78) rfl (.slice (some ⟨w.heap.size + 1, 0, none⟩) ps.length ps.length) (.int .i64 i) ?hx ?hy (.pointer (some ⟨w.heap.size + 1, i, none⟩)) (index_boolss hil) ?_; (case hw => kernel_rfl); (case hx => kernel_rfl); (case hy => kernel_rfl); simp only [Act.put, List.setIfInBounds_toArray, List.set_cons_zero, List.set_cons_succ]); (refine bStill_load ?hw 55 (.tmp 79) rfl (⟨w.heap.size + 1, i, none⟩) ?hx (.slice (some ⟨w.heap.size + 2 + i, 0, none⟩) ps.length ps.length) (load_bools ri) ?_; (case hw => kernel_rfl); (case hx => kernel_rfl); simp only [Act.put, List.setIfInBounds_toArray, List.set_cons_zero, List.set_cons_succ]); (refine bStill_move ?hw (.tmp 7) rfl (.int .i64 m) ?hv ?_; (case hw => kernel_rfl); (case hv => kernel_rfl); simp only [Act.put, List.setIfInBounds_toArray, List.set_cons_zero, List.set_cons_succ]); (refine bStill_index ?hw 55 (.tmp 80) (.tmp 81) rfl (.slice (some ⟨w.heap.size + 2 + i, 0, none⟩) ps.length ps.length) (.int .i64 m) ?hx ?hy (.pointer (some ⟨w.heap.size + 2 + i, m, none⟩)) (index_bools hml) ?_; (case hw => kernel_rfl); (case hx => kernel_rfl); (case hy => kernel_rfl); simp only [Act.put, List.setIfInBounds_toArray, List.set_cons_zero, List.set_cons_succ]))
                      (refine bStill_load ?hw 4 (.tmp 82) rfl (⟨w.heap.size + 2 + i, m, none⟩) ?hx (.bool true) (load_bool cb) ?_; (case hw => kernel_rfl); (case hx => kernel_rfl); simp only [Act.put, List.setIfInBounds_toArray, List.set_cons_zero, List.set_cons_succ])
                      (refine bStill_move ?hw (.tmp 83) rfl (.bool true) ?hv ?_; (case hw => kernel_rfl); (case hv => kernel_rfl); simp only [Act.put, List.setIfInBounds_toArray, List.set_cons_zero, List.set_cons_succ])
                      (refine bStill_move ?hw (.tmp 4) rfl (.slice (some ⟨w.heap.size + 1, 0, none⟩) ps.length ps.length) ?hv ?_; (case hw => kernel_rfl); (case hv => kernel_rfl); simp only [Act.put, List.setIfInBounds_toArray, List.set_cons_zero, List.set_cons_succ])
                      (refine bStill_move ?hw (.tmp 7) rfl (.int .i64 m) ?hv ?_; (case hw => kernel_rfl); (case hv => kernel_rfl); simp only [Act.put, List.setIfInBounds_toArray, List.set_cons_zero, List.set_cons_succ])
                      (refine bStill_index ?hw 58 (.tmp 85) (.tmp 86) rfl (.slice (some ⟨w.heap.size + 1, 0, none⟩) ps.length ps.length) (.int .i64 m) ?hx ?hy (.pointer (some ⟨w.heap.size + 1, m, none⟩)) (index_boolss hml) ?_; (case hw => kernel_rfl); (case hx => kernel_rfl); (case hy => kernel_rfl); simp only [Act.put, List.setIfInBounds_toArray, List.set_cons_zero, List.set_cons_succ])
                      (refine bStill_load ?hw 55 (.tmp 87) rfl (⟨w.heap.size + 1, m, none⟩) ?hx (.slice (some ⟨w.heap.size + 2 + m, 0, none⟩) ps.length ps.length) (load_bools rm) ?_; (case hw => kernel_rfl); (case hx => kernel_rfl); simp only [Act.put, List.setIfInBounds_toArray, List.set_cons_zero, List.set_cons_succ])
                      (refine bStill_move ?hw (.tmp 9) rfl (.int .i64 k) ?hv ?_; (case hw => kernel_rfl); (case hv => kernel_rfl); simp only [Act.put, List.setIfInBounds_toArray, List.set_cons_zero, List.set_cons_succ])
                      (refine bStill_index ?hw 55 (.tmp 88) (.tmp 89) rfl (.slice (some ⟨w.heap.size + 2 + m, 0, none⟩) ps.length ps.length) (.int .i64 k) ?hx ?hy (.pointer (some ⟨w.heap.size + 2 + m, k, none⟩)) (index_bools hkl) ?_; (case hw => kernel_rfl); (case hx => kernel_rfl); (case hy => kernel_rfl); simp only [Act.put, List.setIfInBounds_toArray, List.set_cons_zero, List.set_cons_succ])
                      (refine bStill_load ?hw 4 (.tmp 90) rfl (⟨w.heap.size + 2 + m, k, none⟩) ?hx (.bool vc) (load_bool cc) ?_; (case hw => kernel_rfl); (case hx => kernel_rfl); simp only [Act.put, List.setIfInBounds_toArray, List.set_cons_zero, List.set_cons_succ])
                      (refine bStill_pick ?hw (.tmp 84) (.tmp 91) (.const (.bool false)) rfl (true) ?hc (.bool vc) ?hv ?_; (case hw => kernel_rfl); (case hc => kernel_rfl); (case hv => kernel_rfl); simp only [Act.put, List.setIfInBounds_toArray, List.set_cons_zero, List.set_cons_succ])
                      (refine bStill_pick ?hw (.tmp 76) (.const (.bool true)) (.tmp 92) rfl (false) ?hc (.bool vc) ?hv ?_; (case hw => kernel_rfl); (case hc => kernel_rfl); (case hv => kernel_rfl); simp only [Act.put, List.setIfInBounds_toArray, List.set_cons_zero, List.set_cons_succ])
                      ((refine bStill_index ?hw 55 (.tmp 67) (.tmp 68) rfl (.slice (some ⟨w.heap.size + 2 + i, 0, none⟩) ps.length ps.length) (.int .i64 k) ?hx ?hy (.pointer (some ⟨w.heap.size + 2 + i, k, none⟩)) (index_bools hkl) ?_; (case hw => kernel_rfl); (case hx => kernel_rfl); (case hy => kernel_rfl); simp only [Act.put, List.setIfInBounds_toArray, List.set_cons_zero, List.set_cons_succ]); refine bStill_nil ?_; change wpList _ _ _ _ _ wr.drew; go_wp2)
                      go_roundw
                      case rel => exact ⟨k + 1, by omega, by go_num, ((HGR2.out.drewN 1).put vc hil hkl).congr fun j _ y _ => by rw [HNX.out j y]; rfl⟩
                      case measure => simp [intOf]; omega
                · have hkn : k = ps.length := by omega
                  subst hkn
                  have HGR2 := hgr
                  clear hgr hk hkl
                  go_wp2
                  go_roundw
                  case rel => exact ⟨i + 1, by omega, by go_num, HGR2.out.congr fun j _ y hy => fwAt_rowEnd ex m i ps.length j y hy⟩
                  case measure => simp [intOf]; omega
            · have hin : i = ps.length := by omega
              subst hin
              have HGB := hgb
              clear hgb hi hil
              go_wp2
              go_roundw
              case rel => exact ⟨m + 1, by omega, by go_num, HGB.out.congr fun j hj y _ => fwAt_end ex m ps.length j y hj⟩
              case measure => simp [intOf]; omega
        · have hmn : m = ps.length := by omega
          subst hmn
          have HGA := hga
          clear hga hm hml
          go_wp2
          go_ret
          exact ⟨rfl, ⟨_, HGA.out⟩, HBW.out.trans (HGA.out.bel.mono (by omega))⟩
end

end Go.Proofs.YtihpoecdnchioaaGreatDoor
