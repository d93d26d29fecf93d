/- Maps that a call makes, as lists of entries: lookup, update, len, make; laws for the walks. No conditions. -/
import Derived.Test.YtihpoecdnchioaaGreatDoorLaws
namespace Go.Proofs.YtihpoecdnchioaaGreatDoor
open Go.RowKit

/-- w' is w with block b turned (and nothing else) -/
structure Upd (b : Nat) (w w' : World) : Prop where
  os : w'.os = w.os
  tape : w'.tape = w.tape
  output : w'.output = w.output
  size : w'.heap.size = w.heap.size
  block : ∀ k, k ≠ b → w'.heap[k]? = w.heap[k]?

theorem Upd.below {b B : Nat} {w w' : World} (h : Upd b w w') (hb : B ≤ b) : Below B w w' := ⟨h.os, h.tape, h.output, Nat.le_of_eq h.size.symm, fun k hk => h.block k (by omega)⟩
theorem Upd.cell {b : Nat} {w w' : World} (h : Upd b w w') {p : Addr} (hp : p.block ≠ b) : w'.cell? p = w.cell? p := World.cell?_of_block (w := w) (h.block _ hp)
theorem Upd.frozen {b : Nat} {w w' : World} (h : Upd b w w') {p : Addr} (hp : p.block ≠ b) : w'.frozen? p = w.frozen? p := World.frozen?_of_block (w := w) (h.block _ hp)

section
variable {κ ν : Type} (ek : κ → Value) (ev : ν → Value)

/-- block b is a map with the entries l, the eldest first -/
def MapIs (w : World) (b : Nat) (l : List (κ × ν)) : Prop :=
  ∃ es clock, w.heap[b]? = some (.map es clock) ∧ es.toList.map (fun e => (e.key, e.val)) = l.map fun p => (ek p.1, ev p.2)

variable {ek ev}

theorem MapIs.upd {b b' : Nat} {w w' : World} {l : List (κ × ν)} (h : MapIs ek ev w b l) (hu : Upd b' w w') (hb : b ≠ b') : MapIs ek ev w' b l := by
  obtain ⟨es, c, h1, h2⟩ := h
  exact ⟨es, c, by rw [hu.block _ hb]; exact h1, h2⟩
theorem MapIs.below {b B : Nat} {w w' : World} {l : List (κ × ν)} (h : MapIs ek ev w b l) (hu : Below B w w') (hb : b < B) : MapIs ek ev w' b l := by
  obtain ⟨es, c, h1, h2⟩ := h
  exact ⟨es, c, by rw [hu.block _ hb]; exact h1, h2⟩
theorem MapIs.lt {b : Nat} {w : World} {l : List (κ × ν)} (h : MapIs ek ev w b l) : b < w.heap.size := by
  obtain ⟨es, c, h1, h2⟩ := h
  exact (Array.getElem?_eq_some_iff.1 h1).1
theorem MapIs.made (w : World) : MapIs ek ev (w.alloc (.map #[] 0)) w.heap.size ([] : List (κ × ν)) := ⟨#[], 0, heap_alloc_new _ _, rfl⟩
theorem MapIs.alloc {b : Nat} {w : World} {l : List (κ × ν)} (h : MapIs ek ev w b l) (o : Obj) : MapIs ek ev (w.alloc o) b l :=
  h.below (B := w.heap.size) ((Below.refl _ _).alloc (Nat.le_refl _) _) h.lt

end

theorem run_getMap {P : Program} {w : World} {b : Nat} {es : Array MapEntry} {c : Nat} (h : w.heap[b]? = some (.map es c)) : (getObj b).run P w = .ok (.map es c) w := by
  unfold getObj; rw [Sem.run, h]; rfl
theorem run_setMap {P : Program} {w : World} {b : Nat} {es : Array MapEntry} {c : Nat} (h : w.heap[b]? = some (.map es c)) (o : Obj) : (setObj b o).run P w = .ok () { w with heap := w.heap.setIfInBounds b o } := by
  unfold setObj; rw [Sem.run, h]; rfl

section
variable {κ ν : Type} [BEq κ] (ek : κ → Value) (ev : ν → Value)

/-- the entries behind a store -/
def ins : List (κ × ν) → κ → ν → List (κ × ν)
  | [], k, v => [(k, v)]
  | (a, x) :: l, k, v => if k == a then (k, v) :: l else (a, x) :: ins l k v

/-- how keys of type K compare -/
structure KeyLaw (P : Program) (K : TypeId) : Prop where
  und : ∃ d, P.underlying K = some d ∧ (∀ a b : κ, Instr.sameNow d (ek a) (ek b) = some (a == b)) ∧ (∀ (w : World) (e : Bool) (a : κ), (Instr.checkKey e 10000 K (ek a)).run P w = .ok () w)
  bits : ∀ a : κ, Instr.sameBits 10000 (ek a) (ek a) = true

variable {ek ev}

theorem find_none {d : TypeDesc} (hd : ∀ a b : κ, Instr.sameNow d (ek a) (ek b) = some (a == b)) (k : κ) (v : ν) : ∀ (l : List (κ × ν)) (es : List MapEntry) (i : Nat),
    es.map (fun e => (e.key, e.val)) = l.map (fun p => (ek p.1, ev p.2)) → l.lookup k = none → Instr.findNow d (ek k) es i = some none ∧ ins l k v = l ++ [(k, v)]
  | [], [], i, _, _ => ⟨rfl, rfl⟩
  | (a, x) :: l, e :: es, i, h, hl => by
    simp only [List.map_cons, List.cons.injEq, Prod.mk.injEq] at h
    obtain ⟨⟨h1, h2⟩, h3⟩ := h
    rw [List.lookup_cons] at hl
    cases hka : k == a with
    | true => rw [hka] at hl; cases hl
    | false =>
      rw [hka] at hl
      obtain ⟨r1, r2⟩ := find_none hd k v l es (i + 1) h3 hl
      refine ⟨?_, ?_⟩
      · rw [Instr.findNow, h1, hd, hka]; exact r1
      · simp [ins, hka, r2]
  | [], e :: es, i, h, _ => by cases h
  | (a, x) :: l, [], i, h, _ => by cases h

theorem ins_none : ∀ (l : List (κ × ν)) (k : κ) (v : ν), l.lookup k = none → ins l k v = l ++ [(k, v)]
  | [], _, _, _ => rfl
  | (a, x) :: l, k, v, h => by
    rw [List.lookup_cons] at h
    cases hka : k == a with
    | true => rw [hka] at h; cases h
    | false => rw [hka] at h; simp [ins, hka, ins_none l k v h]

variable [LawfulBEq κ]

theorem find_some {d : TypeDesc} (hd : ∀ a b : κ, Instr.sameNow d (ek a) (ek b) = some (a == b)) (k : κ) (v x : ν) : ∀ (l : List (κ × ν)) (es : List MapEntry) (i : Nat),
    es.map (fun e => (e.key, e.val)) = l.map (fun p => (ek p.1, ev p.2)) → l.lookup k = some x →
    ∃ j, j < es.length ∧ Instr.findNow d (ek k) es i = some (some (i + j, ev x)) ∧ (es[j]?.map (·.key)) = some (ek k) ∧
      (es.modify j fun e => { e with key := ek k, val := ev v }).map (fun e => (e.key, e.val)) = (ins l k v).map (fun p => (ek p.1, ev p.2))
  | [], [], i, _, h => by cases h
  | (a, y) :: l, e :: es, i, h, hl => by
    simp only [List.map_cons, List.cons.injEq, Prod.mk.injEq] at h
    obtain ⟨⟨h1, h2⟩, h3⟩ := h
    rw [List.lookup_cons] at hl
    cases hka : k == a with
    | true =>
      rw [hka] at hl
      obtain rfl : y = x := by simpa using hl
      obtain rfl : k = a := by simpa using hka
      refine ⟨0, by simp, ?_, by simp [h1], ?_⟩
      · rw [Instr.findNow, h1, hd, hka, h2]; rfl
      · simp [ins, h3]
    | false =>
      rw [hka] at hl
      obtain ⟨j, r0, r1, r2, r3⟩ := find_some hd k v x l es (i + 1) h3 hl
      refine ⟨j + 1, by simpa using r0, ?_, by simpa using r2, ?_⟩
      · rw [Instr.findNow, h1, hd, hka]
        simpa [Nat.add_assoc, Nat.add_comm 1 j] using r1
      · simp [ins, hka, r3, h1, h2]
  | [], e :: es, i, h, _ => by cases h
  | (a, y) :: l, [], i, h, _ => by cases h

variable {P : Program} {T K E : TypeId}

theorem run_findKey (hk : KeyLaw ek P K) {w : World} {l : List (κ × ν)} {es : Array MapEntry} (he : es.toList.map (fun e => (e.key, e.val)) = l.map fun p => (ek p.1, ev p.2)) (k : κ) (v : ν) :
    match l.lookup k with
    | none => (Instr.findKey K (ek k) es.toList).run P w = .ok none w ∧ ins l k v = l ++ [(k, v)]
    | some x => ∃ j, j < es.size ∧ (Instr.findKey K (ek k) es.toList).run P w = .ok (some (j, ev x)) w ∧ (es[j]?.map (·.key)) = some (ek k) ∧
        (es.modify j fun e => { e with key := ek k, val := ev v }).toList.map (fun e => (e.key, e.val)) = (ins l k v).map (fun p => (ek p.1, ev p.2)) := by
  obtain ⟨d, hu, hd, _⟩ := hk.und
  cases hl : l.lookup k with
  | none =>
    obtain ⟨r1, r2⟩ := find_none hd k v l es.toList 0 he hl
    refine ⟨?_, r2⟩
    simp [Instr.findKey, run_underlying hu, r1]
  | some x =>
    obtain ⟨j, r0, r1, r2, r3⟩ := find_some hd k v x l es.toList 0 he hl
    refine ⟨j, by simpa using r0, ?_, by simpa using r2, ?_⟩
    · simp [Instr.findKey, run_underlying hu, r1]
    · rw [Array.toList_modify]; exact r3

/-- v := m[k] -/
theorem run_look (hk : KeyLaw ek P K) (ht : P.underlying T = some (.map K E)) {z : Value} (hz : ∀ w, (zeroValue E).run P w = .ok z w) {w : World} {b : Nat} {l : List (κ × ν)} (h : MapIs ek ev w b l) (k : κ) :
    (Instr.lookup T (.map (some b)) (ek k) false).run P w = .ok (match l.lookup k with | some x => ev x | none => z) w := by
  obtain ⟨es, c, h1, h2⟩ := h
  have hc := fun e => (Classical.choose_spec hk.und).2.2 w e k
  cases hl : l.lookup k with
  | none =>
    obtain ⟨d, hu, hd, _⟩ := hk.und
    have hf : (Instr.findKey K (ek k) es.toList).run P w = .ok none w := by
      have : Instr.findNow d (ek k) es.toList 0 = some none := by
        have aux : ∀ (l : List (κ × ν)) (es : List MapEntry) (i : Nat), es.map (fun e => (e.key, e.val)) = l.map (fun p => (ek p.1, ev p.2)) → l.lookup k = none → Instr.findNow d (ek k) es i = some none := by
          intro l
          induction l with
          | nil => intro es i h _; cases es with | nil => rfl | cons e es => cases h
          | cons p l ih =>
            intro es i h hl
            cases es with
            | nil => cases h
            | cons e es =>
              obtain ⟨a, x⟩ := p
              simp only [List.map_cons, List.cons.injEq, Prod.mk.injEq] at h
              rw [List.lookup_cons] at hl
              cases hka : k == a with
              | true => rw [hka] at hl; cases hl
              | false => rw [hka] at hl; rw [Instr.findNow, h.1.1, hd, hka]; exact ih es _ h.2 hl
        exact aux l _ 0 h2 hl
      simp [Instr.findKey, run_underlying hu, this]
    simp [Instr.lookup, run_underlying ht, run_getMap h1, hc, hf, hz]
  | some x =>
    have := run_findKey hk (w := w) h2 k x
    rw [hl] at this
    obtain ⟨j, _, hf, _, _⟩ := this
    simp [Instr.lookup, run_underlying ht, run_getMap h1, hc, hf]

/-- v, ok := m[k] -/
theorem run_look_ok (hk : KeyLaw ek P K) (ht : P.underlying T = some (.map K E)) {z : Value} (hz : ∀ w, (zeroValue E).run P w = .ok z w) {w : World} {b : Nat} {l : List (κ × ν)} (h : MapIs ek ev w b l) (k : κ) :
    (Instr.lookup T (.map (some b)) (ek k) true).run P w = .ok (match l.lookup k with | some x => .tuple #[ev x, .bool true] | none => .tuple #[z, .bool false]) w := by
  have h0 := run_look hk ht hz h k
  obtain ⟨es, c, h1, h2⟩ := h
  have hc := fun e => (Classical.choose_spec hk.und).2.2 w e k
  cases hl : l.lookup k with
  | none =>
    obtain ⟨d, hu, hd, _⟩ := hk.und
    rw [hl] at h0
    have hf : (Instr.findKey K (ek k) es.toList).run P w = .ok none w := by
      have aux : ∀ (l : List (κ × ν)) (es : List MapEntry) (i : Nat), es.map (fun e => (e.key, e.val)) = l.map (fun p => (ek p.1, ev p.2)) → l.lookup k = none → Instr.findNow d (ek k) es i = some none := by
        intro l
        induction l with
        | nil => intro es i h _; cases es with | nil => rfl | cons e es => cases h
        | cons p l ih =>
          intro es i h hl
          cases es with
          | nil => cases h
          | cons e es =>
            obtain ⟨a, x⟩ := p
            simp only [List.map_cons, List.cons.injEq, Prod.mk.injEq] at h
            rw [List.lookup_cons] at hl
            cases hka : k == a with
            | true => rw [hka] at hl; cases hl
            | false => rw [hka] at hl; rw [Instr.findNow, h.1.1, hd, hka]; exact ih es _ h.2 hl
      simp [Instr.findKey, run_underlying hu, aux l _ 0 h2 hl]
    simp [Instr.lookup, run_underlying ht, run_getMap h1, hc, hf, hz]
  | some x =>
    have := run_findKey hk (w := w) h2 k x
    rw [hl] at this
    obtain ⟨j, _, hf, _, _⟩ := this
    simp [Instr.lookup, run_underlying ht, run_getMap h1, hc, hf]

/-- m[k] = v -/
theorem run_store (hk : KeyLaw ek P K) (ht : P.underlying T = some (.map K E)) {w : World} {b : Nat} {l : List (κ × ν)} (h : MapIs ek ev w b l) (k : κ) (v : ν) :
    ∃ w', (Instr.mapUpdate T (.map (some b)) (ek k) (ev v)).run P w = .ok () w' ∧ MapIs ek ev w' b (ins l k v) ∧ Upd b w w' := by
  have hlt := h.lt
  obtain ⟨es, c, h1, h2⟩ := h
  have hc := fun e => (Classical.choose_spec hk.und).2.2 w e k
  have hf := run_findKey hk (w := w) h2 k v
  have put : ∀ (es' : Array MapEntry) (c' : Nat), es'.toList.map (fun e => (e.key, e.val)) = (ins l k v).map (fun p => (ek p.1, ev p.2)) →
      MapIs ek ev { w with heap := w.heap.setIfInBounds b (.map es' c') } b (ins l k v) ∧ Upd b w { w with heap := w.heap.setIfInBounds b (.map es' c') } := fun es' c' he =>
    ⟨⟨es', c', by simp [hlt], he⟩, ⟨rfl, rfl, rfl, by simp, fun j hj => by simp [Ne.symm hj]⟩⟩
  cases hl : l.lookup k with
  | none =>
    rw [hl] at hf
    refine ⟨_, ?_, put (es.push { key := ek k, val := ev v, born := c }) (c + 1) (by simp [h2, hf.2])⟩
    simp [Instr.mapUpdate, run_underlying ht, run_getMap h1, run_setMap h1, hc, hf.1]
  | some x =>
    rw [hl] at hf
    obtain ⟨j, hj, hf, hkey, hm⟩ := hf
    refine ⟨_, ?_, put (es.modify j fun e => { e with key := ek k, val := ev v }) c hm⟩
    have hst : (Instr.keyThatStays (ek k) (ek k)).run P w = .ok (ek k) w := by simp [Instr.keyThatStays, hk.bits]
    simp [Instr.mapUpdate, run_underlying ht, run_getMap h1, run_setMap h1, hc, hf, hkey, hst]

end

/-- 'm[k] = v' as a step of the walk. -/
theorem wpList_put {κ ν : Type} [BEq κ] [LawfulBEq κ] {ek : κ → Value} {ev : ν → Value} {P : Program} {T K E : TypeId} {ops : Array Oper} {rest : List Oper} {o : Oper} {a : Act} {Q : Exit → Act → World → Prop} {w : World}
    (hg : o.guard = none) (m x y : Operand) (ho : o.op = .mapUpdate T m x y) (hk : KeyLaw ek P K) (ht : P.underlying T = some (.map K E)) {b : Nat} {l : List (κ × ν)} (h : MapIs ek ev w b l)
    (k : κ) (v : ν) (hm : a.eval m = .map (some b)) (hx : a.eval x = ek k) (hy : a.eval y = ev v)
    (hK : ∀ w', MapIs ek ev w' b (ins l k v) → Upd b w w' → wpList P ops Q rest (a.put o.dst undef) w') : wpList P ops Q (o :: rest) a w := by
  refine wpList_plain hg fun K' hK' => ?_
  obtain ⟨w', hrun, h1, h2⟩ := run_store hk ht h k v
  unfold Oper.wp
  simp [execOp, ho, hm, hx, hy, hrun, Result.andThen]
  exact hK' _ _ (hK w' h1 h2)

instance : LawfulBEq ByteArray where
  eq_of_beq {a b} h := by
    cases a with | mk a => cases b with | mk b =>
      have : (a == b) = true := h
      rw [eq_of_beq this]
  rfl {a} := by
    cases a with | mk a =>
      show (a == a) = true
      exact BEq.rfl

theorem eqB_eq (a b : ByteArray) : (a == b) = (a.toList == b.toList) := by
  rw [Bool.eq_iff_iff, beq_iff_eq, beq_iff_eq]
  constructor
  · rintro rfl; rfl
  · intro h
    rw [ByteArray.toList_eq, ByteArray.toList_eq] at h
    cases a with | mk a => cases b with | mk b => simpa using h

theorem run_checkKey_str {P : Program} {K : TypeId} (h : P.underlying K = some .string) (n : Nat) (w : World) (e : Bool) (a : ByteArray) : (Instr.checkKey e (n + 1) K (.string a)).run P w = .ok () w := by
  rw [Instr.checkKey.eq_def]
  simp [run_underlying h]
theorem run_checkKey_int {P : Program} {K : TypeId} {q : IntKind} (h : P.underlying K = some (.int q)) (n : Nat) (w : World) (e : Bool) (a : Int) : (Instr.checkKey e (n + 1) K (.int q a)).run P w = .ok () w := by
  rw [Instr.checkKey.eq_def]
  simp [run_underlying h]
theorem sameBits_str (n : Nat) (a : ByteArray) : Instr.sameBits (n + 1) (.string a) (.string a) = true := by rw [Instr.sameBits]; simp
theorem sameBits_int (n : Nat) (q : IntKind) (a : Int) : Instr.sameBits (n + 1) (.int q a) (.int q a) = true := by rw [Instr.sameBits]; simp

/-- keys that are strings -/
theorem keyStr {P : Program} {K : TypeId} (h : P.underlying K = some .string) : KeyLaw Value.string P K :=
  ⟨⟨_, h, fun _ _ => rfl, fun w e a => run_checkKey_str h 9999 w e a⟩, fun a => sameBits_str 9999 a⟩
/-- keys that are ints -/
theorem keyInt {P : Program} {K : TypeId} {q : IntKind} (h : P.underlying K = some (.int q)) : KeyLaw (Value.int q) P K :=
  ⟨⟨_, h, fun _ _ => by simp [Instr.sameNow], fun w e a => run_checkKey_int h 9999 w e a⟩, fun a => sameBits_int 9999 q a⟩

end Go.Proofs.YtihpoecdnchioaaGreatDoor
