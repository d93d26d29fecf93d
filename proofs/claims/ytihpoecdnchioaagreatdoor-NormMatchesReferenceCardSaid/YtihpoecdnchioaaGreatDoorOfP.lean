/- norm.of as plain mathematics: the places of the Ids, and which provisions except each. Of no program. -/
import Derived.Test.YtihpoecdnchioaaGreatDoorMaps
import Derived.Test.YtihpoecdnchioaaGreatDoorR14
import Derived.Test.YtihpoecdnchioaaGreatDoorCirc
namespace Go.Proofs.YtihpoecdnchioaaGreatDoor

section
variable {κ ν : Type} [BEq κ] [LawfulBEq κ]
theorem lookup_ins_same : ∀ (l : List (κ × ν)) (k : κ) (v : ν), (ins l k v).lookup k = some v
  | [], k, v => by simp [ins]
  | (a, x) :: l, k, v => by
    unfold ins
    cases h : k == a with
    | true => simp
    | false => rw [if_neg (by simp), List.lookup_cons, h]; exact lookup_ins_same l k v
theorem lookup_ins_other : ∀ (l : List (κ × ν)) {k k' : κ} (v : ν), k' ≠ k → (ins l k v).lookup k' = l.lookup k'
  | [], k, k', v, h => by simp [ins, h]
  | (a, x) :: l, k, k', v, h => by
    unfold ins
    cases hk : k == a with
    | true =>
      obtain rfl : k = a := by simpa using hk
      have hf : (k' == k) = false := by simpa using h
      simp [List.lookup_cons, hf]
    | false =>
      rw [if_neg (by simp), List.lookup_cons, List.lookup_cons, lookup_ins_other l v h]
end
theorem length_ins {κ ν : Type} [BEq κ] : ∀ (l : List (κ × ν)) (k : κ) (v : ν), (ins l k v).length = if (l.lookup k).isNone then l.length + 1 else l.length
  | [], k, v => by simp [ins]
  | (a, x) :: l, k, v => by
    unfold ins
    cases hk : k == a with
    | true => simp [List.lookup_cons, hk]
    | false =>
      rw [if_neg (by simp), List.length_cons, length_ins l k v, List.lookup_cons, hk]
      simp only [List.length_cons]
      split <;> rfl

/-- the map of places behind k provisions -/
def atK (ids : List ByteArray) : Nat → List (ByteArray × Int)
  | 0 => []
  | k + 1 => ins (atK ids k) (ids.getD k default) k

/-- i excepts the one at place k -/
def addB (rows : List (List Nat)) (k i : Nat) : List (List Nat) := if (rows.getD k []).contains i then rows else rows.set k (rows.getD k [] ++ [i])
def stepB (at_ : List (ByteArray × Int)) (i : Nat) (rows : List (List Nat)) (id : ByteArray) : List (List Nat) :=
  match at_.lookup id with
  | none => rows
  | some k => addB rows k.toNat i
/-- behind the provisions ahead of place i -/
def byK (at_ : List (ByteArray × Int)) (ex : List (List ByteArray)) : Nat → List (List Nat)
  | 0 => List.replicate ex.length []
  | i + 1 => (ex.getD i []).foldl (stepB at_ i) (byK at_ ex i)

theorem addB_len (rows : List (List Nat)) (k i : Nat) : (addB rows k i).length = rows.length := by unfold addB; split <;> simp
theorem stepB_len (at_ : List (ByteArray × Int)) (i : Nat) (rows : List (List Nat)) (id : ByteArray) : (stepB at_ i rows id).length = rows.length := by
  unfold stepB; split
  · rfl
  · exact addB_len _ _ _
theorem foldB_len (at_ : List (ByteArray × Int)) (i : Nat) (l : List ByteArray) (rows : List (List Nat)) : (l.foldl (stepB at_ i) rows).length = rows.length := by
  induction l generalizing rows with
  | nil => rfl
  | cons a l ih => rw [List.foldl_cons, ih, stepB_len]
theorem byK_len (at_ : List (ByteArray × Int)) (ex : List (List ByteArray)) : ∀ i, (byK at_ ex i).length = ex.length
  | 0 => by simp [byK]
  | i + 1 => by rw [byK, foldB_len, byK_len at_ ex i]

theorem addB_get (rows : List (List Nat)) (k i : Nat) (hk : k < rows.length) (j : Nat) : (addB rows k i).getD j [] = if j = k ∧ i ∉ rows.getD k [] then rows.getD k [] ++ [i] else rows.getD j [] := by
  unfold addB
  by_cases h : i ∈ rows.getD k []
  · rw [if_pos (by simpa using h), if_neg (fun e => e.2 h)]
  · rw [if_neg (by simpa using h)]
    by_cases hj : j = k
    · subst hj
      rw [if_pos ⟨rfl, h⟩]
      simp [List.getD_eq_getElem?_getD, hk]
    · rw [if_neg (by simp [hj])]
      simp [List.getD_eq_getElem?_getD, List.getElem?_set_ne (Ne.symm hj)]

/-- every row has members below i -/
def RowsLt (rows : List (List Nat)) (i : Nat) : Prop := ∀ k, ∀ x ∈ rows.getD k [], x < i

/-- the entries of the map: places of the list, each place's Id at it -/
theorem atK_some (ids : List ByteArray) : ∀ (k : Nat), ∀ id x, (atK ids k).lookup id = some x → 0 ≤ x ∧ x.toNat < k ∧ ids.getD x.toNat default = id
  | 0, id, x, h => by cases h
  | k + 1, id, x, h => by
    rw [atK] at h
    by_cases e : id = ids.getD k default
    · rw [e, lookup_ins_same] at h
      cases h
      exact ⟨by omega, by omega, by rw [e]; rfl⟩
    · rw [lookup_ins_other _ _ e] at h
      obtain ⟨h1, h2, h3⟩ := atK_some ids k id x h
      exact ⟨h1, by omega, h3⟩

theorem atK_none (ids : List ByteArray) : ∀ (k : Nat), k ≤ ids.length → ∀ id, (atK ids k).lookup id = none ↔ id ∉ ids.take k
  | 0, _, id => by simp [atK]
  | k + 1, hk, id => by
    rw [atK, List.take_succ_eq_append_getElem (by omega), List.mem_append, List.mem_singleton]
    have hg : ids.getD k default = ids[k] := by rw [List.getD_eq_getElem?_getD, List.getElem?_eq_getElem (by omega)]; rfl
    rw [hg]
    by_cases e : id = ids[k]
    · rw [e, lookup_ins_same]; simp
    · rw [lookup_ins_other _ _ e, atK_none ids k (by omega) id]
      simp [e]

theorem atK_len (ids : List ByteArray) : ∀ (k : Nat), k ≤ ids.length → (atK ids k).length ≤ k ∧ ((atK ids k).length = k ↔ (ids.take k).Nodup)
  | 0, _ => by simp [atK]
  | k + 1, hk => by
    obtain ⟨h1, h2⟩ := atK_len ids k (by omega)
    have hg : ids.getD k default = ids[k] := by rw [List.getD_eq_getElem?_getD, List.getElem?_eq_getElem (by omega)]; rfl
    have hn := atK_none ids k (by omega) ids[k]
    rw [atK, length_ins, hg, List.take_succ_eq_append_getElem (by omega), List.nodup_append]
    by_cases e : (atK ids k).lookup ids[k] = none
    · rw [if_pos (by rw [e]; rfl)]
      refine ⟨by omega, ?_⟩
      have := hn.1 e
      constructor
      · intro h
        exact ⟨h2.1 (by omega), by simp, fun a ha b hb eab => by simp at hb; subst hb; subst eab; exact this ha⟩
      · rintro ⟨h3, _⟩
        rw [h2.2 h3]
    · rw [if_neg (by cases hq : (atK ids k).lookup ids[k] with | none => exact absurd hq e | some x => simp)]
      refine ⟨by omega, ?_⟩
      constructor
      · intro h; omega
      · rintro ⟨_, _, h3⟩
        have : ids[k] ∈ ids.take k := by
          refine Classical.byContradiction fun h => e (hn.2 h)
        exact absurd rfl (h3 _ this _ (by simp))

theorem nodup_inj {α : Type} {l : List α} (hn : l.Nodup) {i j : Nat} (hi : i < l.length) (hj : j < l.length) (h : l[i] = l[j]) : i = j := by
  have hp := List.pairwise_iff_getElem.1 hn
  rcases Nat.lt_trichotomy i j with h1 | h1 | h1
  · exact absurd h (hp i j hi hj h1)
  · exact h1
  · exact absurd h.symm (hp j i hj hi h1)

/-- with different Ids the map tells each one's place -/
theorem atK_nodup {ids : List ByteArray} (hn : ids.Nodup) (id : ByteArray) (k : Nat) : (atK ids ids.length).lookup id = some (k : Int) ↔ ids[k]? = some id := by
  constructor
  · intro h
    obtain ⟨_, h2, h3⟩ := atK_some ids _ id k h
    rw [Int.toNat_natCast] at h2 h3
    rw [List.getD_eq_getElem?_getD, List.getElem?_eq_getElem h2] at h3
    rw [List.getElem?_eq_getElem h2]; simpa using h3
  · intro h
    obtain ⟨hk, rfl⟩ := List.getElem?_eq_some_iff.1 h
    cases hl : (atK ids ids.length).lookup ids[k] with
    | none => exact absurd (List.getElem_mem hk) (by have := (atK_none ids _ (Nat.le_refl _) ids[k]).1 hl; rwa [List.take_length] at this)
    | some x =>
      obtain ⟨h1, h2, h3⟩ := atK_some ids _ _ x hl
      rw [List.getD_eq_getElem?_getD, List.getElem?_eq_getElem h2] at h3
      have h4 : ids[x.toNat] = ids[k] := by simpa using h3
      have : x.toNat = k := nodup_inj hn h2 hk h4
      rw [show x = (k : Int) by omega]

theorem eqB_comm (a b : ByteArray) : eqB a b = eqB b a := by unfold eqB; rw [Bool.eq_iff_iff, beq_iff_eq, beq_iff_eq]; exact eq_comm
theorem eqB_iff (a b : ByteArray) : eqB a b = true ↔ a = b := by unfold eqB; rw [← eqB_eq]; simp

/-- one provision's exceptions, looked at in order -/
theorem foldB_get {ids : List ByteArray} (hn : ids.Nodup) (i : Nat) (k : Nat) (hk : k < ids.length) : ∀ (l : List ByteArray) (rows : List (List Nat)), rows.length = ids.length → (∀ x ∈ rows.getD k [], x ≤ i) →
    (l.foldl (stepB (atK ids ids.length) i) rows).getD k [] = if inB l ids[k] = true ∧ i ∉ rows.getD k [] then rows.getD k [] ++ [i] else rows.getD k []
  | [], rows, _, _ => by simp [inB]
  | id :: l, rows, hl, hx => by
    rw [List.foldl_cons]
    have hstep : (stepB (atK ids ids.length) i rows id).getD k [] = if eqB id ids[k] = true ∧ i ∉ rows.getD k [] then rows.getD k [] ++ [i] else rows.getD k [] := by
      unfold stepB
      cases hlk : (atK ids ids.length).lookup id with
      | none =>
        have h1 := (atK_none ids _ (Nat.le_refl _) id).1 hlk
        rw [List.take_length] at h1
        rw [if_neg]
        rintro ⟨h2, _⟩
        rw [eqB_iff] at h2
        exact h1 (h2 ▸ List.getElem_mem hk)
      | some x =>
        obtain ⟨h1, h2, h3⟩ := atK_some ids _ id x hlk
        show (addB rows x.toNat i).getD k [] = _
        rw [addB_get rows _ i (by omega) k]
        have hiff : k = x.toNat ↔ eqB id ids[k] = true := by
          rw [eqB_iff]
          rw [List.getD_eq_getElem?_getD, List.getElem?_eq_getElem h2] at h3
          constructor
          · intro e; subst e; simpa using h3.symm
          · intro e
            have hx2 : (atK ids ids.length).lookup id = some (k : Int) := (atK_nodup hn id k).2 (by rw [List.getElem?_eq_getElem hk, e])
            rw [hlk] at hx2
            simp at hx2; omega
        by_cases e : k = x.toNat
        · subst e
          simp [hiff.1 rfl]
        · have : ¬ (eqB id ids[k] = true) := fun h => e (hiff.2 h)
          rw [if_neg (by simp [e]), if_neg (by simp [this])]
    rw [foldB_get hn i k hk l _ (by rw [stepB_len, hl]) (by
      intro y hy
      rw [hstep] at hy
      split at hy
      · rcases List.mem_append.1 hy with h | h
        · exact hx y h
        · simp at h; omega
      · exact hx y hy), hstep]
    have hin : inB (id :: l) ids[k] = (eqB id ids[k] || inB l ids[k]) := by simp [inB]
    rw [hin]
    clear hstep hx
    generalize rows.getD k [] = r
    by_cases hi : i ∈ r
    · simp [hi]
    · cases h1 : eqB id ids[k] <;> cases h2 : inB l ids[k] <;> simp [hi]

/-- which provisions except the one at place k, behind those ahead of place i -/
theorem byK_get {ids : List ByteArray} (hn : ids.Nodup) (ex : List (List ByteArray)) (hl : ex.length = ids.length) (k : Nat) (hk : k < ids.length) : ∀ (i : Nat), i ≤ ex.length →
    (byK (atK ids ids.length) ex i).getD k [] = (List.range i).filter fun j => inB (ex.getD j []) ids[k]
  | 0, _ => by simp [byK, List.getD_eq_getElem?_getD, List.getElem?_replicate]; split <;> rfl
  | i + 1, hi => by
    have ih := byK_get hn ex hl k hk i (by omega)
    have hmem : ∀ x ∈ (byK (atK ids ids.length) ex i).getD k [], x < i := by
      rw [ih]; intro x hx
      exact List.mem_range.1 (List.mem_filter.1 hx).1
    rw [byK, foldB_get hn i k hk _ _ (by rw [byK_len, hl]) (fun x hx => Nat.le_of_lt (hmem x hx)), ih, List.range_succ, List.filter_append]
    have hni : i ∉ (List.range i).filter fun j => inB (ex.getD j []) ids[k] := fun h => by
      have := List.mem_range.1 (List.mem_filter.1 h).1; omega
    cases h : inB (ex.getD i []) ids[k] with
    | true => rw [if_pos ⟨rfl, hni⟩, List.filter_cons, if_pos (by exact h), List.filter_nil]
    | false => rw [if_neg (by simp), List.filter_cons, if_neg (by rw [h]; simp), List.filter_nil, List.append_nil]

end Go.Proofs.YtihpoecdnchioaaGreatDoor
