/- The walks of strings.IndexByte's users in the lexer: the class of each byte. No conditions. -/
import Derived.Test.YtihpoecdnchioaaGreatDoorMaps
import Derived.Test.YtihpoecdnchioaaGreatDoorName
import Derived.Deep.OwnRows
import Derived.Shelf.Strings.Search1
namespace Go.Proofs.YtihpoecdnchioaaGreatDoor
open Go.RowKit

set_option maxRecDepth 100000 in
set_option maxHeartbeats 400000 in
theorem indexByteIn_any (s : ByteArray) (c : Int) (w : World) :
    Calls Tryz.prog 131 #[.string s, .int .u8 c] w fun e w' => e = .returned (.int .i64 (Lib.indexByte s.data.toList c.toNat.toUInt8)) ∧ w = w' := by
  go_enter Tryz.func131, Tryz.ntmps131
  go_wp2
  rw [run_callFunc_extern Tryz.func137 (by kernel_rfl) (by kernel_rfl) (by kernel_rfl) (e := Extern.BytealgIndexByte.indexByte) (by kernel_rfl), Lib.run_indexByteString]
  simp only [Result.andThen]
  rw [Oper.upon_value]
  go_wp2
  go_ret
  exact ⟨rfl, rfl⟩

set_option maxRecDepth 100000 in
set_option maxHeartbeats 400000 in
theorem indexByte_any (s : ByteArray) (c : Int) (w : World) :
    Calls Tryz.prog 128 #[.string s, .int .u8 c] w fun e w' => e = .returned (.int .i64 (Lib.indexByte s.data.toList c.toNat.toUInt8)) ∧ w = w' := by
  go_enter Tryz.func128, Tryz.ntmps128
  go_wp2_with (go_at_call 131; refine (indexByteIn_any _ _ _).mono ?_; rintro e w2 ⟨rfl, rfl⟩)
  go_ret
  exact ⟨rfl, rfl⟩

/-- the class of a byte, before the three that are set at the end -/
def cls0 (c : Nat) : Nat :=
  if (97 ≤ c ∧ c ≤ 122) ∨ (65 ≤ c ∧ c ≤ 90) then 3 else if 48 ≤ c ∧ c ≤ 57 then 4 else if c = 32 ∨ c = 9 ∨ c = 10 then 1
  else if c = 59 ∨ c = 44 ∨ c = 46 ∨ c = 58 ∨ c = 40 ∨ c = 41 ∨ c = 91 ∨ c = 93 ∨ c = 123 ∨ c = 125 ∨ c = 61 then 6 else if c = 60 ∨ c = 62 then 7 else 0
def clsB (c : Nat) : Nat := if c = 35 then 2 else if c = 95 then 5 else if c = 33 then 8 else cls0 c

def sBlank : ByteArray := { data := #[32, 9, 10] }
def sSym : ByteArray := { data := #[59, 44, 46, 58, 40, 41, 91, 93, 123, 125, 61] }

theorem blank_at (c : Nat) (h : c < 256) : decide (0 ≤ Lib.indexByte sBlank.data.toList (c : Int).toNat.toUInt8) = decide (c = 32 ∨ c = 9 ∨ c = 10) := by
  have : ∀ c : Fin 256, decide (0 ≤ Lib.indexByte sBlank.data.toList ((c.1 : Nat) : Int).toNat.toUInt8) = decide (c.1 = 32 ∨ c.1 = 9 ∨ c.1 = 10) := by decide +kernel
  exact this ⟨c, h⟩
theorem sym_at (c : Nat) (h : c < 256) : decide (0 ≤ Lib.indexByte sSym.data.toList (c : Int).toNat.toUInt8) =
    decide (c = 59 ∨ c = 44 ∨ c = 46 ∨ c = 58 ∨ c = 40 ∨ c = 41 ∨ c = 91 ∨ c = 93 ∨ c = 123 ∨ c = 125 ∨ c = 61) := by
  have : ∀ c : Fin 256, decide (0 ≤ Lib.indexByte sSym.data.toList ((c.1 : Nat) : Int).toNat.toUInt8) =
    decide (c.1 = 59 ∨ c.1 = 44 ∨ c.1 = 46 ∨ c.1 = 58 ∨ c.1 = 40 ∨ c.1 = 41 ∨ c.1 = 91 ∨ c.1 = 93 ∨ c.1 = 123 ∨ c.1 = 125 ∨ c.1 = 61) := by decide +kernel
  exact this ⟨c, h⟩

/-- A new array whose elements are zero. -/
theorem wpList_alloc_row {P : Program} {ops : Array Oper} {rest : List Oper} {o : Oper} {a : Act} {Q : Exit → Act → World → Prop} {w : World} {ty : TypeId}
    (hg : o.guard = none) (ho : o.op = .alloc ty) (z : Value) (n : Nat) (hz : (P.info? ty).map (·.zero) = some (some (.agg (Array.replicate n z))))
    (h : ∀ W', Below w.heap.size w W' → W'.heap.size = w.heap.size + 1 → W'.rowIs w.heap.size ty n (fun _ => z) → wpList P ops Q rest (a.put o.dst (.pointer (some ⟨w.heap.size, 0, none⟩))) W') :
    wpList P ops Q (o :: rest) a w := by
  refine wpList_plain hg fun K' hK' => ?_
  obtain ⟨i, hi, hzi⟩ : ∃ i, P.info? ty = some i ∧ i.zero = some (.agg (Array.replicate n z)) := by
    cases hq : P.info? ty with
    | none => rw [hq] at hz; cases hz
    | some i => rw [hq] at hz; exact ⟨i, rfl, by simpa using hz⟩
  have hrun : (Instr.alloc ty true (.tuple #[])).run P w = .ok (.pointer (some ⟨w.heap.size, 0, none⟩)) (w.alloc (.cells (Array.replicate n z) ty)) := by
    simp [Instr.alloc, zeroValue, typeInfo, hi, hzi, newVar, newRow, Value.cells]
  unfold Oper.wp
  simp only [execOp, ho]
  simp [hrun]
  refine hK' _ _ (h _ ((Below.refl _ _).alloc (Nat.le_refl _) _) (by simp) ?_)
  have := World.rowIs_alloc w (Array.replicate n z) ty (fun _ => z) (fun i hi => by simp at hi; simp [hi])
  simpa using this

/-- A value of many cells is stored over a row that is there. -/
theorem wpList_store_old {P : Program} {ops : Array Oper} {rest : List Oper} {o : Oper} {a : Act} {Q : Exit → Act → World → Prop} {w : World} {ty t : TypeId} {n : Nat} {f : Nat → Value}
    (hg : o.guard = none) (x y : Operand) (ho : o.op = .store ty x y) (cells : List Value) (b : Nat) (hx : a.eval x = .pointer (some ⟨b, 0, none⟩)) (hy : a.eval y = .agg cells.toArray)
    (hrow : w.rowIs b t n f) (hn : n = cells.length) (hi : (P.info? ty).map (·.size) = some cells.length) (h1 : cells.toArray.all (·.oneCell') = true)
    (h : ∀ W', Upd b w W' → W'.rangeAt b 0 cells → wpList P ops Q rest (a.put o.dst undef) W') : wpList P ops Q (o :: rest) a w := by
  have ht : w.there b 0 cells.length := fun j hj => ⟨by rw [Nat.zero_add, hrow.cell (by omega)]; rfl, by rw [Nat.zero_add]; exact hrow.frozen j⟩
  refine wpList_store_mid hg ty x y ho b 0 cells.toArray hx hy (by simpa using ht) (by simpa using hi) h1 (h _ ?_ ?_)
  · have : ∀ (vs : List Value) (o : Nat) (W : World), Upd b w W → Upd b w (W.setCells b o vs) := by
      intro vs
      induction vs with
      | nil => intro _ _ h; exact h
      | cons v vs ih =>
        intro o W h
        refine ih _ _ ⟨h.os, h.tape, h.output, ?_, fun k hk => ?_⟩
        · simpa [World.setCell] using h.size
        · rw [Below.heap_setCell _ _ _ _ (by exact hk)]; exact h.block k hk
    exact this _ _ _ ⟨rfl, rfl, rfl, rfl, fun _ _ => rfl⟩
  · simpa using World.rangeAt_setCells_same w b 0 cells ht

theorem results_cell1 {fn : Func} {p : Tmp} {ty : TypeId} (h : fn.results = #[.cell p ty]) (tmps : Array Value) (P : Program) (w : World) {a : Addr} (hp : tmps.getD p undef = .pointer (some a)) {v : Value}
    (hl : (loadVar ty a).run P w = .ok v w) : (results fn tmps).run P w = .ok v w := by
  rw [Array.getD_eq_getD_getElem?] at hp
  simp [results, h, hp, hl, asAddr]
theorem results_cell3 {fn : Func} {p q r : Tmp} {t1 t2 t3 : TypeId} (h : fn.results = #[.cell p t1, .cell q t2, .cell r t3]) (tmps : Array Value) (P : Program) (w : World) {a b c : Addr}
    (hp : tmps.getD p undef = .pointer (some a)) (hq : tmps.getD q undef = .pointer (some b)) (hr : tmps.getD r undef = .pointer (some c)) {u v x : Value}
    (h1 : (loadVar t1 a).run P w = .ok u w) (h2 : (loadVar t2 b).run P w = .ok v w) (h3 : (loadVar t3 c).run P w = .ok x w) : (results fn tmps).run P w = .ok (.tuple #[u, v, x]) w := by
  rw [Array.getD_eq_getD_getElem?] at hp hq hr
  simp [results, h, hp, hq, hr, h1, h2, h3, asAddr]

/-- the classes of all bytes -/
def clsL : List Value := (List.range 256).map fun c => Value.int .u8 (clsB c)
theorem clsL_len : clsL.length = 256 := by simp [clsL]
theorem clsL_one : clsL.toArray.all (·.oneCell') = true := all_oneCell_toArray fun v hv => by
  simp only [clsL, List.mem_map] at hv
  obtain ⟨c, _, rfl⟩ := hv
  rfl
theorem clsL_info : (Tryz.prog.info? 162).map (·.size) = some clsL.length := by rw [clsL_len]; kernel_rfl
theorem clsL_get (j : Nat) (v : Value) (h : clsL[j]? = some v) : j < 256 ∧ v = .int .u8 (clsB j) := by
  have hj : j < 256 := by rw [← clsL_len]; exact (List.getElem?_eq_some_iff.1 h).1
  refine ⟨hj, ?_⟩
  simp only [clsL, List.getElem?_map, List.getElem?_range hj, Option.map_some, Option.some.injEq] at h
  exact h.symm

def zArr : Value := .int .u8 0
theorem zArr.info : (Tryz.prog.info? 162).map (·.zero) = some (some (.agg (Array.replicate 256 zArr))) := by kernel_rfl

/-- the row of classes of which the first k are set -/
def clsF (k : Nat) : Nat → Value := fun i => .int .u8 (if i < k then (cls0 i : Nat) else 0 : Nat)

theorem clsF_step {w : World} {b k : Nat} {x : Nat} (h : w.rowIs b 162 256 (clsF k)) (hx : cls0 k = x) : (w.setCell ⟨b, k, none⟩ (.int .u8 x)).rowIs b 162 256 (clsF (k + 1)) := by
  refine (h.set k (.int .u8 x)).congr fun i hi => ?_
  unfold clsF
  by_cases h1 : i = k
  · subst h1; simp [hx]
  · by_cases h2 : i < k
    · rw [if_neg h1, if_pos h2, if_pos (by omega)]
    · rw [if_neg h1, if_neg h2, if_neg (by omega)]
theorem clsF_zero {w : World} {b k : Nat} (h : w.rowIs b 162 256 (clsF k)) (hx : cls0 k = 0) : w.rowIs b 162 256 (clsF (k + 1)) := by
  refine h.congr fun i hi => ?_
  unfold clsF
  by_cases h1 : i = k
  · subst h1; simp [hx]
  · by_cases h2 : i < k
    · rw [if_pos h2, if_pos (by omega)]
    · rw [if_neg h2, if_neg (by omega)]

theorem clsF_range {w : World} {b : Nat} (h : w.rowIs b 162 256 (clsF 256)) :
    (((w.setCell ⟨b, 35, none⟩ (.int .u8 2)).setCell ⟨b, 95, none⟩ (.int .u8 5)).setCell ⟨b, 33, none⟩ (.int .u8 8)).rangeAt b 0 clsL := by
  have h3 := ((h.set 35 (.int .u8 2)).set 95 (.int .u8 5)).set 33 (.int .u8 8)
  intro j v hv
  obtain ⟨hj, rfl⟩ := clsL_get j v hv
  rw [Nat.zero_add, h3.cell hj]
  unfold clsB clsF
  by_cases a1 : j = 33
  · subst a1; rfl
  · by_cases a2 : j = 95
    · subst a2; rfl
    · by_cases a3 : j = 35
      · subst a3; rfl
      · rw [if_neg a1, if_neg a2, if_neg a3, if_pos hj, if_neg a3, if_neg a2, if_neg a1]

set_option maxRecDepth 100000 in
set_option maxHeartbeats 4000000 in
theorem classes_any (w : World) :
    Calls Tryz.prog 124 #[] w fun e w' => e = .returned (.agg clsL.toArray) ∧ Below w.heap.size w w' := by
  go_enter Tryz.func124, Tryz.ntmps124
  go_wp2_with (first | ((with_reducible show wpList _ _ _ (⟨some 0, Op.alloc 162, _, _, _, _⟩ :: _) _ _); refine wpList_alloc_row rfl rfl zArr 256 zArr.info ?_; intro W1 hb1 hz1 hr1) | ((with_reducible show wpList _ _ _ (⟨some 1, Op.alloc 162, _, _, _, _⟩ :: _) _ _); refine wpList_alloc_row rfl rfl zArr 256 zArr.info ?_; intro W2 hb2 hz2 hr2))
  have hr1' := hr1.of_block (hb2.block w.heap.size (by omega))
  have HB := Lib.hid ((hb1.trans (hb2.mono (by omega))) : Below w.heap.size w W2)
  have hz : W2.heap.size = w.heap.size + 2 := by omega
  have HR1 := Lib.hid hr1'
  rw [hz1] at hr2
  have HR2 := Lib.hid (show W2.rowIs (w.heap.size + 1) 162 256 (clsF 0) from hr2.congr fun i _ => by simp [clsF, zArr])
  clear hr1' hr1 hr2 hb1 hb2 hz1 hz2
  go_loopw [4] (fun i wr => ∃ k : Nat, k ≤ 256 ∧ i = .int .i64 k ∧ wr.rowIs (w.heap.size + 1) 162 256 (clsF k) ∧ Hid (wr.rowIs w.heap.size 162 256 (fun _ => zArr)) ∧ Hid (Below w.heap.size w wr)) (fun i _ => 256 - (intOf i).toNat)
  case atStart => exact ⟨0, by omega, rfl, HR2.out, HR1, HB⟩
  case round =>
    obtain ⟨k, hk, rfl, hrow, hrow0, hbw⟩ := hrel
    clear HB HR1 HR2
    by_cases hlt : k < 256
    · have hc := hrow.cell hlt
      have hf := hrow.frozen k
      have HROW := Lib.hid hrow
      have hwr : IntKind.u8.wrap (k : Int) = k := by simp [IntKind.wrap, IntKind.signed, IntKind.bits]; omega
      have hcl := byte_cls (k : Int) (by omega) (by omega)
      have hk5 : (k = 32 ∨ k = 9 ∨ k = 10) ∨ (k = 59 ∨ k = 44 ∨ k = 46 ∨ k = 58 ∨ k = 40 ∨ k = 41 ∨ k = 91 ∨ k = 93 ∨ k = 123 ∨ k = 125 ∨ k = 61) ∨ k = 60 ∨ k = 62 ∨
        ¬ (k = 32 ∨ k = 9 ∨ k = 10 ∨ k = 59 ∨ k = 44 ∨ k = 46 ∨ k = 58 ∨ k = 40 ∨ k = 41 ∨ k = 91 ∨ k = 93 ∨ k = 123 ∨ k = 125 ∨ k = 61 ∨ k = 60 ∨ k = 62) := by omega
      obtain ⟨x1, hx1⟩ : ∃ x1, x1 = Lib.indexByte sBlank.data.toList (k : Int).toNat.toUInt8 := ⟨_, rfl⟩
      obtain ⟨x2, hx2⟩ : ∃ x2, x2 = Lib.indexByte sSym.data.toList (k : Int).toNat.toUInt8 := ⟨_, rfl⟩
      have d1 : decide (0 ≤ x1) = decide (k = 32 ∨ k = 9 ∨ k = 10) := by rw [hx1]; exact blank_at k hlt
      have d2 : decide (0 ≤ x2) = decide (k = 59 ∨ k = 44 ∨ k = 46 ∨ k = 58 ∨ k = 40 ∨ k = 41 ∨ k = 91 ∨ k = 93 ∨ k = 123 ∨ k = 125 ∨ k = 61) := by rw [hx2]; exact sym_at k hlt
      have HX1 := Lib.hid (show Calls Tryz.prog 128 #[.string { data := #[32, 9, 10] }, .int .u8 k] wr fun e w' => e = .returned (.int .i64 x1) ∧ wr = w' by rw [hx1]; exact indexByte_any _ _ _)
      have HX2 := Lib.hid (show Calls Tryz.prog 128 #[.string { data := #[59, 44, 46, 58, 40, 41, 91, 93, 123, 125, 61] }, .int .u8 k] wr fun e w' => e = .returned (.int .i64 x2) ∧ wr = w' by rw [hx2]; exact indexByte_any _ _ _)
      clear hx1 hx2
      by_cases hL : (97 ≤ k ∧ k ≤ 122) ∨ (65 ≤ k ∧ k ≤ 90)
      · have H3 := Lib.hid (show cls0 k = 3 by unfold cls0; rw [if_pos hL])
        clear d1 d2 hk5
        rcases hL with ⟨l1, l2⟩ | ⟨l1, l2⟩
        all_goals
          rcases hcl with ⟨hc, hc', t1, t2, t3, t4, t5, t6, t7⟩ | ⟨hc, hc', t1, t2, t3, t4, t5, t6, t7⟩ | ⟨hc, hc', t1, t2, t3, t4, t5, t6, t7⟩ | ⟨hc, hc', t1, t2, t3, t4, t5, t6, t7⟩ | ⟨hc, hc', t1, t2, t3, t4, t5, t6, t7⟩ | ⟨hc, hc', t1, t2, t3, t4, t5, t6, t7⟩ | ⟨hc, hc', t1, t2, t3, t4, t5, t6, t7⟩ | ⟨hc, hc', t1, t2, t3, t4, t5, t6, t7⟩ | ⟨hc, hc', t1, t2, t3, t4, t5, t6, t7⟩ <;> first | (exfalso; omega) | skip
          go_wp2
          go_roundw
          case rel => exact ⟨k + 1, by omega, by go_num, clsF_step HROW.out H3.out, hrow0.out.setOther (by simp) _, hbw.out.setCell (by simp) _⟩
          case measure => simp [intOf]; omega
      · by_cases hD : 48 ≤ k ∧ k ≤ 57
        · have H3 := Lib.hid (show cls0 k = 4 by unfold cls0; rw [if_neg hL, if_pos hD])
          clear d1 d2 hk5
          obtain ⟨l1, l2⟩ := hD
          rcases hcl with ⟨hc, hc', t1, t2, t3, t4, t5, t6, t7⟩ | ⟨hc, hc', t1, t2, t3, t4, t5, t6, t7⟩ | ⟨hc, hc', t1, t2, t3, t4, t5, t6, t7⟩ | ⟨hc, hc', t1, t2, t3, t4, t5, t6, t7⟩ | ⟨hc, hc', t1, t2, t3, t4, t5, t6, t7⟩ | ⟨hc, hc', t1, t2, t3, t4, t5, t6, t7⟩ | ⟨hc, hc', t1, t2, t3, t4, t5, t6, t7⟩ | ⟨hc, hc', t1, t2, t3, t4, t5, t6, t7⟩ | ⟨hc, hc', t1, t2, t3, t4, t5, t6, t7⟩ <;> first | (exfalso; omega) | skip
          go_wp2
          go_roundw
          case rel => exact ⟨k + 1, by omega, by go_num, clsF_step HROW.out H3.out, hrow0.out.setOther (by simp) _, hbw.out.setCell (by simp) _⟩
          case measure => simp [intOf]; omega
        · have H0 := Lib.hid (show cls0 k = _ by unfold cls0; rw [if_neg hL, if_neg hD])
          rcases hk5 with hq | hq | hq | hq | hq
          · have H3 := Lib.hid (show cls0 k = 1 by rw [H0.out, if_pos hq])
            have e1 : decide (0 ≤ x1) = true := by rw [d1]; exact decide_eq_true hq
            clear d1 d2 hq H0
            rcases hcl with ⟨hc, hc', t1, t2, t3, t4, t5, t6, t7⟩ | ⟨hc, hc', t1, t2, t3, t4, t5, t6, t7⟩ | ⟨hc, hc', t1, t2, t3, t4, t5, t6, t7⟩ | ⟨hc, hc', t1, t2, t3, t4, t5, t6, t7⟩ | ⟨hc, hc', t1, t2, t3, t4, t5, t6, t7⟩ | ⟨hc, hc', t1, t2, t3, t4, t5, t6, t7⟩ | ⟨hc, hc', t1, t2, t3, t4, t5, t6, t7⟩ | ⟨hc, hc', t1, t2, t3, t4, t5, t6, t7⟩ | ⟨hc, hc', t1, t2, t3, t4, t5, t6, t7⟩ <;> first | (exfalso; omega) | skip
            all_goals
              go_wp2_with (first | (go_at_call 128; (with_reducible refine HX1.out.mono ?_); rintro e w2 ⟨rfl, rfl⟩) | (go_at_call 128; (with_reducible refine HX2.out.mono ?_); rintro e w2 ⟨rfl, rfl⟩))
              go_roundw
              case rel => exact ⟨k + 1, by omega, by go_num, clsF_step HROW.out H3.out, hrow0.out.setOther (by simp) _, hbw.out.setCell (by simp) _⟩
              case measure => simp [intOf]; omega
          · have H3 := Lib.hid (show cls0 k = 6 by rw [H0.out, if_neg (by omega), if_pos hq])
            have e1 : decide (0 ≤ x1) = false := by rw [d1]; exact decide_eq_false (by omega)
            have e2 : decide (0 ≤ x2) = true := by rw [d2]; exact decide_eq_true hq
            clear d1 d2 hq H0
            rcases hcl with ⟨hc, hc', t1, t2, t3, t4, t5, t6, t7⟩ | ⟨hc, hc', t1, t2, t3, t4, t5, t6, t7⟩ | ⟨hc, hc', t1, t2, t3, t4, t5, t6, t7⟩ | ⟨hc, hc', t1, t2, t3, t4, t5, t6, t7⟩ | ⟨hc, hc', t1, t2, t3, t4, t5, t6, t7⟩ | ⟨hc, hc', t1, t2, t3, t4, t5, t6, t7⟩ | ⟨hc, hc', t1, t2, t3, t4, t5, t6, t7⟩ | ⟨hc, hc', t1, t2, t3, t4, t5, t6, t7⟩ | ⟨hc, hc', t1, t2, t3, t4, t5, t6, t7⟩ <;> first | (exfalso; omega) | skip
            all_goals
              go_wp2_with (first | (go_at_call 128; (with_reducible refine HX1.out.mono ?_); rintro e w2 ⟨rfl, rfl⟩) | (go_at_call 128; (with_reducible refine HX2.out.mono ?_); rintro e w2 ⟨rfl, rfl⟩))
              go_roundw
              case rel => exact ⟨k + 1, by omega, by go_num, clsF_step HROW.out H3.out, hrow0.out.setOther (by simp) _, hbw.out.setCell (by simp) _⟩
              case measure => simp [intOf]; omega
          · have H3 := Lib.hid (show cls0 k = 7 by rw [H0.out, if_neg (by omega), if_neg (by omega), if_pos (by omega)])
            have e1 : decide (0 ≤ x1) = false := by rw [d1]; exact decide_eq_false (by omega)
            have e2 : decide (0 ≤ x2) = false := by rw [d2]; exact decide_eq_false (by omega)
            clear d1 d2
            have d3 : ((k : Int) == 60) = true := by simp; omega
            clear hq H0
            rcases hcl with ⟨hc, hc', t1, t2, t3, t4, t5, t6, t7⟩ | ⟨hc, hc', t1, t2, t3, t4, t5, t6, t7⟩ | ⟨hc, hc', t1, t2, t3, t4, t5, t6, t7⟩ | ⟨hc, hc', t1, t2, t3, t4, t5, t6, t7⟩ | ⟨hc, hc', t1, t2, t3, t4, t5, t6, t7⟩ | ⟨hc, hc', t1, t2, t3, t4, t5, t6, t7⟩ | ⟨hc, hc', t1, t2, t3, t4, t5, t6, t7⟩ | ⟨hc, hc', t1, t2, t3, t4, t5, t6, t7⟩ | ⟨hc, hc', t1, t2, t3, t4, t5, t6, t7⟩ <;> first | (exfalso; omega) | skip
            all_goals
              go_wp2_with (first | (go_at_call 128; (with_reducible refine HX1.out.mono ?_); rintro e w2 ⟨rfl, rfl⟩) | (go_at_call 128; (with_reducible refine HX2.out.mono ?_); rintro e w2 ⟨rfl, rfl⟩))
              go_roundw
              case rel => exact ⟨k + 1, by omega, by go_num, clsF_step HROW.out H3.out, hrow0.out.setOther (by simp) _, hbw.out.setCell (by simp) _⟩
              case measure => simp [intOf]; omega
          · have H3 := Lib.hid (show cls0 k = 7 by rw [H0.out, if_neg (by omega), if_neg (by omega), if_pos (by omega)])
            have e1 : decide (0 ≤ x1) = false := by rw [d1]; exact decide_eq_false (by omega)
            have e2 : decide (0 ≤ x2) = false := by rw [d2]; exact decide_eq_false (by omega)
            clear d1 d2
            have d3 : ((k : Int) == 60) = false := by simp; omega
            have d4 : ((k : Int) == 62) = true := by simp; omega
            clear hq H0
            rcases hcl with ⟨hc, hc', t1, t2, t3, t4, t5, t6, t7⟩ | ⟨hc, hc', t1, t2, t3, t4, t5, t6, t7⟩ | ⟨hc, hc', t1, t2, t3, t4, t5, t6, t7⟩ | ⟨hc, hc', t1, t2, t3, t4, t5, t6, t7⟩ | ⟨hc, hc', t1, t2, t3, t4, t5, t6, t7⟩ | ⟨hc, hc', t1, t2, t3, t4, t5, t6, t7⟩ | ⟨hc, hc', t1, t2, t3, t4, t5, t6, t7⟩ | ⟨hc, hc', t1, t2, t3, t4, t5, t6, t7⟩ | ⟨hc, hc', t1, t2, t3, t4, t5, t6, t7⟩ <;> first | (exfalso; omega) | skip
            all_goals
              go_wp2_with (first | (go_at_call 128; (with_reducible refine HX1.out.mono ?_); rintro e w2 ⟨rfl, rfl⟩) | (go_at_call 128; (with_reducible refine HX2.out.mono ?_); rintro e w2 ⟨rfl, rfl⟩))
              go_roundw
              case rel => exact ⟨k + 1, by omega, by go_num, clsF_step HROW.out H3.out, hrow0.out.setOther (by simp) _, hbw.out.setCell (by simp) _⟩
              case measure => simp [intOf]; omega
          · have H3 := Lib.hid (show cls0 k = 0 by rw [H0.out, if_neg (by omega), if_neg (by omega), if_neg (by omega)])
            have e1 : decide (0 ≤ x1) = false := by rw [d1]; exact decide_eq_false (by omega)
            have e2 : decide (0 ≤ x2) = false := by rw [d2]; exact decide_eq_false (by omega)
            clear d1 d2
            have d3 : ((k : Int) == 60) = false := by simp; omega
            have d4 : ((k : Int) == 62) = false := by simp; omega
            clear hq H0
            rcases hcl with ⟨hc, hc', t1, t2, t3, t4, t5, t6, t7⟩ | ⟨hc, hc', t1, t2, t3, t4, t5, t6, t7⟩ | ⟨hc, hc', t1, t2, t3, t4, t5, t6, t7⟩ | ⟨hc, hc', t1, t2, t3, t4, t5, t6, t7⟩ | ⟨hc, hc', t1, t2, t3, t4, t5, t6, t7⟩ | ⟨hc, hc', t1, t2, t3, t4, t5, t6, t7⟩ | ⟨hc, hc', t1, t2, t3, t4, t5, t6, t7⟩ | ⟨hc, hc', t1, t2, t3, t4, t5, t6, t7⟩ | ⟨hc, hc', t1, t2, t3, t4, t5, t6, t7⟩ <;> first | (exfalso; omega) | skip
            all_goals
              go_wp2_with (first | (go_at_call 128; (with_reducible refine HX1.out.mono ?_); rintro e w2 ⟨rfl, rfl⟩) | (go_at_call 128; (with_reducible refine HX2.out.mono ?_); rintro e w2 ⟨rfl, rfl⟩))
              go_roundw
              case rel => exact ⟨k + 1, by omega, by go_num, clsF_zero HROW.out H3.out, hrow0.out, hbw.out⟩
              case measure => simp [intOf]; omega
    · obtain rfl : k = 256 := by omega
      have c35 := hrow.cell (i := 35) (by omega)
      have c95 := hrow.cell (i := 95) (by omega)
      have c33 := hrow.cell (i := 33) (by omega)
      have f35 := hrow.frozen 35
      have f95 := hrow.frozen 95
      have f33 := hrow.frozen 33
      have hrng := clsF_range hrow
      have HRNG := Lib.hid hrng
      have HROW0 := Lib.hid (((hrow0.out.setOther (a := ⟨w.heap.size + 1, 35, none⟩) (by simp) (.int .u8 2)).setOther (a := ⟨w.heap.size + 1, 95, none⟩) (by simp) (.int .u8 5)).setOther (a := ⟨w.heap.size + 1, 33, none⟩) (by simp) (.int .u8 8))
      clear hrow hrng
      go_wp2_with (first
        | ((with_reducible show wpList _ _ _ (⟨_, Op.load 162 (.tmp 1), _, _, _, _⟩ :: _) _ _); refine wpList_load_mid rfl _ (.tmp 1) rfl (w.heap.size + 1) 0 rfl clsL _ HRNG.out Tryz.underlying162 rfl clsL_info ?_)
        | ((with_reducible show wpList _ _ _ (⟨_, Op.store 162 (.tmp 0) (.tmp 56), _, _, _, _⟩ :: _) _ _); refine wpList_store_old rfl (.tmp 0) (.tmp 56) rfl clsL w.heap.size rfl rfl HROW0.out clsL_len.symm clsL_info clsL_one ?_; intro W5 hu5 hr5))
      refine bodyPost_ret (v := .agg clsL.toArray) ?_ rfl ⟨rfl, ?_⟩
      · have := run_loadVar_mid (P := Tryz.prog) W5 w.heap.size 0 162 clsL _ hr5 Tryz.underlying162 rfl clsL_info
        exact results_cell1 (p := 0) (ty := 162) rfl _ _ _ rfl this
      · exact (((hbw.out.setCell (by simp) _).setCell (by simp) _).setCell (by simp) _).trans (hu5.below (Nat.le_refl _))

end Go.Proofs.YtihpoecdnchioaaGreatDoor
