/- A small formula's size; NormDecides, what each step of its loops finds: plain. No conditions. -/
import Derived.Test.YtihpoecdnchioaaGreatDoorFew
import Derived.Test.YtihpoecdnchioaaGreatDoorBlk
import Derived.Test.YtihpoecdnchioaaGreatDoorCircs
namespace Go.Proofs.YtihpoecdnchioaaGreatDoor

theorem countL_ge : ∀ (ks : List Fo) (most n : Int), 0 ≤ most → 1 ≤ n → n ≤ most + 1 → n ≤ countL ks most n
  | [], most, n, _, _, _ => by rw [countL]; omega
  | k :: ks, most, n, h0, h1, h2 => by
    rw [countL]
    split
    · have := countF_bd k (most - n) (by omega)
      have := countL_ge ks most (n + countF k (most - n)) h0 (by omega) (by omega)
      omega
    · omega

mutual
theorem countF_eq : ∀ (f : Fo) (most : Int), 0 ≤ most → countF f most ≤ most → countF f most = (f.size : Int)
  | .mk _ _ _ _ ks, most, h0, h => by
    rw [countF] at h ⊢
    rw [countL_eq ks most 1 (by omega) (by omega) (by omega) h, Fo.size]
    omega
theorem countL_eq : ∀ (ks : List Fo) (most n : Int), 0 ≤ most → 1 ≤ n → n ≤ most + 1 → countL ks most n ≤ most → countL ks most n = n + (Fo.sizeL ks : Int)
  | [], most, n, _, _, _, _ => by rw [countL, Fo.sizeL]; omega
  | k :: ks, most, n, h0, h1, h2, h => by
    rw [countL] at h ⊢
    by_cases hn : n ≤ most
    · rw [if_pos hn] at h ⊢
      have hb := countF_bd k (most - n) (by omega)
      have hg := countL_ge ks most (n + countF k (most - n)) (by omega) (by omega) (by omega)
      have hk := countF_eq k (most - n) (by omega) (by omega)
      rw [countL_eq ks most (n + countF k (most - n)) h0 (by omega) (by omega) h, hk, Fo.sizeL]
      omega
    · rw [if_neg hn] at h
      omega
end

theorem smallF_size {f : Fo} {most : Nat} (h : smallF f most = true) : f.size ≤ most := by
  unfold smallF at h
  have h1 := of_decide_eq_true h
  have := countF_eq f most (by omega) h1
  omega

theorem fewL_parts {d : List Fa} {ps : List Pv} {n : Nat} (h : fewL d ps n = true) : ps.length ≤ n ∧ (∀ p ∈ ps, p.except.length ≤ 30) ∧ (∀ p ∈ ps, p.cond.size ≤ 250) := by
  unfold fewL at h
  simp only [Bool.and_eq_true, decide_eq_true_eq, List.all_eq_true] at h
  obtain ⟨⟨h1, _⟩, h3⟩ := h
  refine ⟨by omega, fun p hp => ?_, fun p hp => ?_⟩
  · have := h3 p hp
    unfold fewP at this
    simp only [Bool.and_eq_true, decide_eq_true_eq] at this
    exact this.1.1.1.2
  · have := h3 p hp
    unfold fewP at this
    simp only [Bool.and_eq_true, decide_eq_true_eq] at this
    exact smallF_size (most := 250) this.1.1.1.1

end Go.Proofs.YtihpoecdnchioaaGreatDoor

namespace Go.Proofs.YtihpoecdnchioaaGreatDoor
open Go.RowKit Tj

theorem idAt_inj {ps : List Pv} (hn : (ps.map Pv.id).Nodup) {i k : Nat} (hi : i < ps.length) (hk : k < ps.length) (h : idAt ps i = idAt ps k) : i = k := by
  rw [idAt_eq hi, idAt_eq hk] at h
  have h1 : (ps.map Pv.id)[i]'(by simpa using hi) = (ps.map Pv.id)[k]'(by simpa using hk) := by simpa using h
  exact (List.getElem_inj hn).1 h1

theorem mem_ids {ps : List Pv} (hn : (ps.map Pv.id).Nodup) (l : List Nat) (hl : ∀ x ∈ l, x < ps.length) (i : Nat) (hi : i < ps.length) : idAt ps i ∈ l.map (idAt ps) ↔ i ∈ l := by
  constructor
  · intro h
    obtain ⟨k, hk, e⟩ := List.mem_map.1 h
    rwa [← idAt_inj hn (hl k hk) hi e]
  · intro h; exact List.mem_map.2 ⟨i, h, rfl⟩

theorem mem_applied {d : List Fa} {ps : List Pv} {c : List Int} (hn : (ps.map Pv.id).Nodup) (i : Nat) (hi : i < ps.length) : idAt ps i ∈ appliedL d ps c ↔ apA d ps c (rowsOf ps) i = true := by
  unfold appliedL
  rw [mem_ids hn _ (fun x hx => List.mem_range.1 (List.mem_filter.1 hx).1) i hi, List.mem_filter, List.mem_range]
  exact ⟨fun h => h.2, fun h => ⟨hi, h⟩⟩

/-- of those that hold one applies -/
theorem some_applies {d : List Fa} {ps : List Pv} {c : List Int} (hl : ∀ k, ∀ x ∈ (rowsOf ps).getD k [], x < ps.length) (hc : circS (eB (edg (rowsOf ps))) ps.length = []) :
    (∃ i, ∃ h : i < ps.length, holdsF ps[i].cond d c [] = true) ↔ appliedL d ps c ≠ [] := by
  obtain ⟨rk, _, h2⟩ := rank_le (G := edg (rowsOf ps)) hl hc
  have key : ∀ N i, rk i < N → ∀ h : i < ps.length, holdsF ps[i].cond d c [] = true → ∃ k, k < ps.length ∧ apA d ps c (rowsOf ps) k = true := by
    intro N
    induction N with
    | zero => intro i h; omega
    | succ N ih =>
      intro i hi h hh
      have he := apA_eq (d := d) (c := c) hl hc i h
      rw [hh, Bool.true_and] at he
      cases ha : ((rowsOf ps).getD i []).any (apA d ps c (rowsOf ps)) with
      | false => rw [ha] at he; exact ⟨i, h, by rw [he]; rfl⟩
      | true =>
        obtain ⟨y, hy, hay⟩ := List.any_eq_true.1 ha
        exact ⟨y, hl i y hy, hay⟩
  constructor
  · rintro ⟨i, h, hh⟩ e
    obtain ⟨k, hk, hak⟩ := key (rk i + 1) i (by omega) h hh
    have : idAt ps k ∈ appliedL d ps c := List.mem_map.2 ⟨k, List.mem_filter.2 ⟨List.mem_range.2 hk, hak⟩, rfl⟩
    rw [e] at this
    cases this
  · intro hne
    cases hA : appliedL d ps c with
    | nil => exact absurd hA hne
    | cons x l =>
      have : x ∈ appliedL d ps c := by rw [hA]; simp
      obtain ⟨k, hk, _⟩ := List.mem_map.1 this
      obtain ⟨hk1, hk2⟩ := List.mem_filter.1 hk
      have hk1 := List.mem_range.1 hk1
      have he := apA_eq (d := d) (c := c) hl hc k hk1
      rw [hk2] at he
      exact ⟨k, hk1, by rw [eq_comm, Bool.and_eq_true] at he; exact he.1⟩

end Go.Proofs.YtihpoecdnchioaaGreatDoor

namespace Go.Proofs.YtihpoecdnchioaaGreatDoor
open Go.RowKit Tj

theorem inB_iff (l : List ByteArray) (s : ByteArray) : inB l s = true ↔ s ∈ l := by
  unfold inB
  rw [List.any_eq_true]
  constructor
  · rintro ⟨x, hx, h⟩; rw [eqB_iff] at h; exact h ▸ hx
  · intro h; exact ⟨s, h, (eqB_iff s s).2 rfl⟩

theorem sameB_iff : ∀ (l m : List ByteArray), sameB l m = true ↔ l = m
  | [], [] => by simp [sameB]
  | [], b :: m => by simp [sameB]
  | a :: l, [] => by simp [sameB]
  | a :: l, b :: m => by rw [sameB, Bool.and_eq_true, eqB_iff, sameB_iff l m, List.cons.injEq]

theorem sameB_self (l : List ByteArray) : sameB l l = true := (sameB_iff l l).2 rfl

variable {d : List Fa} {ps : List Pv} {c : List Int}

theorem ask_parts (h0 : askE d ps c = 0) : (ps.map Pv.id).Nodup ∧ (∀ k, ∀ x ∈ (rowsOf ps).getD k [], x < ps.length) ∧ circS (eB (edg (rowsOf ps))) ps.length = [] := by
  obtain ⟨h1, _, _, h2⟩ := askE_zero h0
  have hn := (okP_iff ps).1 h1
  exact ⟨hn, fun k => rowsOf_lt hn k, h2⟩

theorem at_lookup (hn : (ps.map Pv.id).Nodup) (i : Nat) (hi : i < ps.length) : (atK (ps.map Pv.id) ps.length).lookup ps[i].id = some (i : Int) := by
  have h := (atK_nodup hn ps[i].id i).2 (by rw [List.getElem?_map, List.getElem?_eq_getElem hi]; rfl)
  rwa [List.length_map] at h

theorem dec_at (h0 : askE d ps c = 0) (i : Nat) (hi : i < ps.length) :
    blkE d ps c ps[i].id = 0 ∧ blkL d ps c ps[i].id = (((rowsOf ps).getD i []).filter (apA d ps c (rowsOf ps))).map (idAt ps) := by
  obtain ⟨hn, _, _⟩ := ask_parts h0
  have hl := at_lookup hn i hi
  constructor
  · unfold blkE; rw [if_pos h0, hl]; rfl
  · unfold blkL; rw [hl]; simp

theorem in_applied (h0 : askE d ps c = 0) (i : Nat) (hi : i < ps.length) : inB (appliedL d ps c) ps[i].id = apA d ps c (rowsOf ps) i := by
  obtain ⟨hn, _, _⟩ := ask_parts h0
  rw [Bool.eq_iff_iff, inB_iff, ← idAt_eq hi]
  exact mem_applied hn i hi

/-- it applies just if its condition holds and Blocked returns none -/
theorem dec_applies (h0 : askE d ps c = 0) (i : Nat) (hi : i < ps.length) :
    inB (appliedL d ps c) ps[i].id = (holdsF ps[i].cond d c [] && decide ((blkL d ps c ps[i].id).length = 0)) := by
  obtain ⟨hn, hl, hc⟩ := ask_parts h0
  rw [in_applied h0 i hi, apA_eq hl hc i hi, (dec_at h0 i hi).2]
  congr 1
  rw [Bool.eq_iff_iff, decide_eq_true_eq, List.length_map, Bool.not_eq_true', List.any_eq_false, List.length_eq_zero_iff, List.filter_eq_nil_iff]

/-- what Blocked returns applies and excepts it -/
theorem dec_blk (h0 : askE d ps c = 0) (i k : Nat) (hi : i < ps.length) (hk : k < ps.length) :
    inB (blkL d ps c ps[i].id) ps[k].id = (inB (appliedL d ps c) ps[k].id && inB ps[k].except ps[i].id) := by
  obtain ⟨hn, hl, hc⟩ := ask_parts h0
  rw [in_applied h0 k hk, (dec_at h0 i hi).2, Bool.eq_iff_iff, inB_iff, ← idAt_eq hk, mem_ids hn _ (fun x hx => hl i x (List.mem_filter.1 hx).1) k hk, List.mem_filter, rowsOf_get hn i hi, List.mem_filter, Bool.and_eq_true, List.mem_range]
  have e : (ps.map Pv.except).getD k [] = ps[k].except := by simp [List.getD_eq_getElem?_getD, hk]
  rw [e]
  constructor
  · rintro ⟨⟨_, h1⟩, h2⟩; exact ⟨h2, h1⟩
  · rintro ⟨h2, h1⟩; exact ⟨⟨hk, h1⟩, h2⟩

theorem dec_some (h0 : askE d ps c = 0) : (ps.any fun p => holdsF p.cond d c []) = decide (0 < (appliedL d ps c).length) := by
  obtain ⟨hn, hl, hc⟩ := ask_parts h0
  have h := some_applies (d := d) (c := c) hl hc
  rw [Bool.eq_iff_iff, decide_eq_true_eq, List.length_pos_iff, ← h, List.any_eq_true]
  constructor
  · rintro ⟨p, hp, hh⟩
    obtain ⟨i, hi, rfl⟩ := List.getElem_of_mem hp
    exact ⟨i, hi, hh⟩
  · rintro ⟨i, hi, hh⟩
    exact ⟨ps[i], List.getElem_mem hi, hh⟩

theorem any_take {α : Type} (p : α → Bool) (l : List α) (k : Nat) (h : k < l.length) : (l.take (k + 1)).any p = ((l.take k).any p || p l[k]) := by
  rw [List.take_succ_eq_append_getElem h, List.any_append, List.any_cons, List.any_nil, Bool.or_false]

end Go.Proofs.YtihpoecdnchioaaGreatDoor

