/- What groups hands back is the circles in order: plain. No conditions. -/
import Derived.Test.YtihpoecdnchioaaGreatDoorSortF
import Derived.Test.YtihpoecdnchioaaGreatDoorCirc
namespace Go.Proofs.YtihpoecdnchioaaGreatDoor
open Go.RowKit Go.Sort Tj

theorem els_of {W : World} {base : Nat} : ∀ (vals : List Value) (outs : List (List Int)), vals.length = outs.length →
    (∀ k, k < outs.length → W.ownsRow base 3 1 (vals.getD k undef) (outs.getD k []).length ((outs.getD k []).map iV) ∧ outs.getD k [] ≠ []) → (∀ o ∈ outs, ∀ x ∈ o, 0 ≤ x ∧ x ≤ 1000) →
    ∃ els : List (El W base), els.map El.v = vals ∧ els.map El.l = outs
  | [], [], _, _, _ => ⟨[], rfl, rfl⟩
  | v :: vs, o :: os, hl, h, hb => by
    obtain ⟨els, h1, h2⟩ := els_of vs os (by simpa using hl) (fun k hk => by have := h (k + 1) (by simp; omega); simpa using this) (fun o' ho' => hb o' (List.mem_cons_of_mem _ ho'))
    have h0 := h 0 (by simp)
    exact ⟨⟨v, o, by simpa using h0.1, by simpa using h0.2, hb o (by simp)⟩ :: els, by simp [h1], by simp [h2]⟩
  | [], _ :: _, hl, _, _ => by simp at hl
  | _ :: _, [], hl, _, _ => by simp at hl

def srtN (c : List Nat) : List Nat := c.mergeSort fun x y => decide (x ≤ y)
theorem srtN_mem (c : List Nat) (x : Nat) : x ∈ srtN c ↔ x ∈ c := List.mem_mergeSort
theorem srtN_le (c : List Nat) : (srtN c).Pairwise (· ≤ ·) := by
  have h := List.pairwise_mergeSort (le := fun x y : Nat => decide (x ≤ y)) (fun a b c h1 h2 => by simp at *; omega) (fun a b => by simp; omega) c
  exact h.imp fun h => by simpa using h
theorem srtN_lt {c : List Nat} (hn : c.Nodup) : (srtN c).Pairwise (· < ·) := by
  have h2 : (srtN c).Nodup := (List.mergeSort_perm c _).nodup_iff.2 hn
  exact (List.Pairwise.and (srtN_le c) h2).imp fun h => by omega
theorem outL_srt (G : Nat → List Nat) (comps : List (List Nat)) : outL G comps = ((comps.filter (nontriv G)).map srtN).map fun l => l.map fun x : Nat => (x : Int) := by
  unfold outL
  rw [List.map_map]
  refine List.map_congr_left fun c _ => ?_
  show _ = (srtN c).map _
  unfold srtN
  rw [List.map_mergeSort (s := fun x y : Int => decide (x ≤ y)) (fun a _ b _ => by simp)]
theorem toNat_cast (l : List Nat) : (l.map fun x : Nat => (x : Int)).map Int.toNat = l := by
  rw [List.map_map]
  exact (List.map_congr_left fun x _ => by simp).trans (List.map_id' l)
theorem key_hd (l : List Nat) : hd (l.map fun x : Nat => (x : Int)) = (key l : Int) := by
  cases l <;> simp [hd, key]
theorem key_mem {c : List Nat} (hc : c ≠ []) : key (srtN c) ∈ c := by
  rw [← srtN_mem]
  have : srtN c ≠ [] := fun e => hc (by
    have := List.length_mergeSort (le := fun x y : Nat => decide (x ≤ y)) c
    rw [show c.mergeSort _ = srtN c from rfl, e] at this
    exact List.length_eq_zero_iff.1 this.symm)
  cases h : srtN c with
  | nil => exact absurd h this
  | cons a m => simp [key]

theorem gr_end {G : Nat → List Nat} {n : Nat} {s : TS} (hG : ∀ x, ∀ y ∈ G x, y < n) (hi : Inv G (fun _ => False) s) (hv : ∀ x, x ∈ s.vis ↔ x < n) (out : List (List Int)) (hp : out.Perm (outL G s.comps)) (ho : out.Pairwise fun a b => hd a ≤ hd b) :
    out = (circS (eB G) n).map fun l => l.map fun x : Nat => (x : Int) := by
  have hcl : s.comps.Pairwise fun a b => ∀ x ∈ a, x ∉ b := by
    have := hi.once
    unfold List.Nodup at this
    rw [List.pairwise_flatten] at this
    exact this.2.imp fun h x hx hx' => h x hx x hx' rfl
  have hnd : ∀ c ∈ s.comps, c.Nodup := fun c hc => by
    have := hi.once
    unfold List.Nodup at this
    rw [List.pairwise_flatten] at this
    exact this.1 c hc
  obtain ⟨q, hq, hqp⟩ : ∃ q : List (List Nat), out = q.map (fun l => l.map fun x : Nat => (x : Int)) ∧ q.Perm ((s.comps.filter (nontriv G)).map srtN) := by
    refine ⟨out.map fun l => l.map Int.toNat, ?_, ?_⟩
    · rw [List.map_map]
      refine (List.map_id' out).symm.trans (List.map_congr_left fun l hl => ?_)
      have h1 := hp.mem_iff.1 hl
      rw [outL_srt] at h1
      obtain ⟨m, _, rfl⟩ := List.mem_map.1 h1
      show _ = ((m.map fun x : Nat => (x : Int)).map Int.toNat).map _
      rw [toNat_cast]
    · have h1 := hp.map (fun l => l.map Int.toNat)
      rw [outL_srt, List.map_map (l := (s.comps.filter (nontriv G)).map srtN)] at h1
      rw [show ((s.comps.filter (nontriv G)).map srtN).map ((fun l : List Int => l.map Int.toNat) ∘ fun l : List Nat => l.map fun x : Nat => (x : Int)) = (s.comps.filter (nontriv G)).map srtN from
        (List.map_congr_left fun l _ => toNat_cast l).trans (List.map_id' _)] at h1
      exact h1
  subst hq
  congr 1
  rw [List.pairwise_map] at ho
  refine circ_of_comps hG hi hv srtN srtN_mem (fun c hc => srtN_lt (hnd c hc)) q (fun x => hqp.mem_iff) ?_
  have h1 : ((s.comps.filter (nontriv G)).map srtN).Pairwise fun a b => key a ≠ key b := by
    rw [List.pairwise_map]
    refine List.Pairwise.imp_of_mem (fun {a b} ha hb hab he => ?_) (hcl.filter (nontriv G))
    have ha' := hi.ne _ (List.mem_filter.1 ha).1
    have hb' := hi.ne _ (List.mem_filter.1 hb).1
    exact hab _ (key_mem ha') (by rw [he]; exact key_mem hb')
  have h2 := (hqp.pairwise_iff (R := fun a b => key a ≠ key b) (fun {a b} h e => h e.symm)).2 h1
  refine (List.Pairwise.and ho h2).imp fun {a b} h => ?_
  obtain ⟨h3, h4⟩ := h
  rw [key_hd, key_hd] at h3
  omega

theorem outL_bd {G : Nat → List Nat} {comps : List (List Nat)} (h : ∀ c ∈ comps, ∀ x ∈ c, x ≤ 1000) : ∀ o ∈ outL G comps, ∀ x ∈ o, 0 ≤ x ∧ x ≤ 1000 := by
  intro o ho x hx
  rw [outL_srt] at ho
  obtain ⟨m, hm, rfl⟩ := List.mem_map.1 ho
  obtain ⟨c, hc, rfl⟩ := List.mem_map.1 hm
  obtain ⟨y, hy, rfl⟩ := List.mem_map.1 hx
  have := h c (List.mem_filter.1 hc).1 y ((srtN_mem c y).1 hy)
  omega
theorem outL_le (G : Nat → List Nat) (comps : List (List Nat)) : (outL G comps).length ≤ comps.length := by
  unfold outL
  rw [List.length_map]
  exact List.length_filter_le _ _
theorem comps_len : ∀ (l : List (List Nat)), (∀ c ∈ l, c ≠ []) → l.length ≤ l.flatten.length
  | [], _ => by simp
  | c :: l, h => by
    have h1 := comps_len l fun c hc => h c (List.mem_cons_of_mem _ hc)
    have h2 := List.length_pos_iff.2 (h c (by simp))
    simp only [List.length_cons, List.flatten_cons, List.length_append]
    omega

end Go.Proofs.YtihpoecdnchioaaGreatDoor
