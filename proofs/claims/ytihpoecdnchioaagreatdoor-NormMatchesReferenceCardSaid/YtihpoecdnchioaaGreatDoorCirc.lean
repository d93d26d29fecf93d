/- Tarjan's way to the circles of a graph; circles by Warshall; who applies; images of graphs: plain mathematics, of no program. -/

namespace Go.Proofs.YtihpoecdnchioaaGreatDoor.Tj

/-- a chain of edges leads from the one to the other -/
inductive Rch (G : Nat → List Nat) : Nat → Nat → Prop where
  | refl (x : Nat) : Rch G x x
  | step {x y z : Nat} : y ∈ G x → Rch G y z → Rch G x z

variable {G : Nat → List Nat}

theorem Rch.trans {x y z : Nat} (h : Rch G x y) (k : Rch G y z) : Rch G x z := by
  induction h with
  | refl _ => exact k
  | step e _ ih => exact .step e (ih k)
theorem Rch.edge {x y : Nat} (h : y ∈ G x) : Rch G x y := .step h (.refl _)
theorem Rch.snoc {x y z : Nat} (h : Rch G x y) (k : z ∈ G y) : Rch G x z := h.trans (.edge k)

/-- a set that no edge leaves is left by no chain -/
theorem Rch.stays {C : Nat → Prop} (hc : ∀ x, C x → ∀ y ∈ G x, C y) {x y : Nat} (h : Rch G x y) (hx : C x) : C y := by
  induction h with
  | refl _ => exact hx
  | step e _ ih => exact ih (hc _ hx _ e)

/-- where the search stands: what was visited, in this order; the stack; the least numbers; the groups that were taken off -/
structure TS where
  vis : List Nat
  stack : List Nat
  low : Nat → Nat
  comps : List (List Nat)

def TS.num (s : TS) (x : Nat) : Nat := s.vis.idxOf x

/-- what holds between two steps, P being the provisions that are being visited -/
structure Inv (G : Nat → List Nat) (P : Nat → Prop) (s : TS) : Prop where
  vn : s.vis.Nodup
  ord : s.stack.Pairwise fun x y => s.num x < s.num y
  up : s.stack.Pairwise fun x y => Rch G x y
  pg : ∀ x, P x → x ∈ s.stack
  dn : ∀ y ∈ s.stack, ∃ x, P x ∧ s.num x ≤ s.num y ∧ Rch G y x
  cl : ∀ x ∈ s.comps.flatten, ∀ y ∈ G x, y ∈ s.comps.flatten
  sc : ∀ c ∈ s.comps, ∀ x ∈ c, ∀ y, y ∈ c ↔ Rch G x y ∧ Rch G y x
  part : ∀ x, x ∈ s.vis ↔ x ∈ s.stack ∨ x ∈ s.comps.flatten
  apart : ∀ x ∈ s.stack, x ∉ s.comps.flatten
  once : s.comps.flatten.Nodup
  ne : ∀ c ∈ s.comps, c ≠ []
  bl : ∀ x ∈ s.vis, ¬ P x → ∀ y ∈ G x, y ∈ s.vis

/-- a visit of i may begin -/
structure Pre (G : Nat → List Nat) (P : Nat → Prop) (i : Nat) (s : TS) : Prop where
  inv : Inv G P s
  fresh : i ∉ s.vis
  all : ∀ y ∈ s.stack, Rch G y i

/-- a visit of i has ended -/
structure Post (G : Nat → List Nat) (P : Nat → Prop) (i : Nat) (s s' : TS) : Prop where
  inv : Inv G P s'
  vis : ∃ l, s'.vis = s.vis ++ i :: l
  comps : ∃ cs, s'.comps = s.comps ++ cs
  low : ∀ x ∈ s.vis, s'.low x = s.low x
  lo1 : s'.low i ≤ s'.num i
  lo2 : ∃ z ∈ s'.vis, s'.num z = s'.low i ∧ Rch G i z ∧ (z ∈ s'.stack ∨ z = i)
  stk : ∃ new, s'.stack = s.stack ++ new ∧ ∀ y ∈ new, ∀ z ∈ G y, z ∈ s.stack → s'.low i ≤ s'.num z

/-- the loop of a visit of i over its edges; ks have been looked at -/
structure LI (G : Nat → List Nat) (P : Nat → Prop) (i : Nat) (s0 : TS) (ks : List Nat) (s : TS) : Prop where
  inv : Inv G (fun x => P x ∨ x = i) s
  pre : Pre G P i s0
  vis : ∃ l, s.vis = s0.vis ++ i :: l
  comps : ∃ cs, s.comps = s0.comps ++ cs
  low : ∀ x ∈ s0.vis, s.low x = s0.low x
  done : ∀ k ∈ ks, k ∈ s.vis
  lo1 : s.low i ≤ s.num i
  lo2 : ∃ z ∈ s.stack, s.num z = s.low i ∧ Rch G i z
  lo4 : ∀ k ∈ ks, k ∈ s0.stack → s.low i ≤ s.num k
  stk : ∃ new, s.stack = s0.stack ++ i :: new ∧ ∀ y ∈ new, ∀ z ∈ G y, z ∈ s0.stack → s.low i ≤ s.num z

theorem idxOf_app {l m : List Nat} {x : Nat} (h : x ∈ l) : (l ++ m).idxOf x = l.idxOf x := by
  rw [List.idxOf_append, if_pos h]
theorem idxOf_new {l m : List Nat} {x : Nat} (h : x ∉ l) : (l ++ x :: m).idxOf x = l.length := by
  rw [List.idxOf_append, if_neg h]; simp
theorem idxOf_lt {l : List Nat} {x : Nat} (h : x ∈ l) : l.idxOf x < l.length := List.idxOf_lt_length_of_mem h

def upd (f : Nat → Nat) (i v : Nat) : Nat → Nat := fun x => if x = i then v else f x
theorem upd_same (f : Nat → Nat) (i v : Nat) : upd f i v i = v := by simp [upd]
theorem upd_other (f : Nat → Nat) {i x : Nat} (v : Nat) (h : x ≠ i) : upd f i v x = f x := by simp [upd, h]

/-- the state in which the loop of a visit begins -/
def TS.push (s : TS) (i : Nat) : TS := ⟨s.vis ++ [i], s.stack ++ [i], upd s.low i s.vis.length, s.comps⟩
/-- a number that is less -/
def TS.lower (s : TS) (i v : Nat) : TS := ⟨s.vis, s.stack, upd s.low i (min (s.low i) v), s.comps⟩

theorem Inv.stack_vis {P : Nat → Prop} {s : TS} (h : Inv G P s) {x : Nat} (hx : x ∈ s.stack) : x ∈ s.vis := (h.part x).2 (.inl hx)

/-- the numbers of what was visited are told by place -/
theorem num_inj {s : TS} {x y : Nat} (hx : x ∈ s.vis) (hy : y ∈ s.vis) (h : s.num x = s.num y) : x = y := by
  have h1 := List.getElem_idxOf (idxOf_lt hx)
  have h2 := List.getElem_idxOf (idxOf_lt hy)
  unfold TS.num at h
  rw [← h1, ← h2]
  congr 1

theorem push_LI {P : Nat → Prop} {i : Nat} {s : TS} (h : Pre G P i s) : LI G P i s [] (s.push i) := by
  obtain ⟨hi, hf, ha⟩ := h
  have hnum : ∀ x ∈ s.vis, (s.push i).num x = s.num x := fun x hx => idxOf_app hx
  have hni : (s.push i).num i = s.vis.length := idxOf_new hf
  have his : i ∉ s.stack := fun e => hf (hi.stack_vis e)
  refine ⟨?_, ⟨hi, hf, ha⟩, ⟨[], rfl⟩, ⟨[], by simp [TS.push]⟩, ?_, by simp, ?_, ?_, by simp, ⟨[], rfl, by simp⟩⟩
  · refine ⟨?_, ?_, ?_, ?_, ?_, hi.cl, hi.sc, ?_, ?_, hi.once, hi.ne, ?_⟩
    · show (s.vis ++ [i]).Nodup
      rw [List.nodup_append]
      exact ⟨hi.vn, by simp, fun a h1 b hb e => by simp at hb; exact hf (by rw [← hb, ← e]; exact h1)⟩
    · show (s.stack ++ [i]).Pairwise _
      rw [List.pairwise_append]
      refine ⟨hi.ord.imp_of_mem fun {a b} ha hb hab => by rw [hnum a (hi.stack_vis ha), hnum b (hi.stack_vis hb)]; exact hab, by simp, fun a h1 b hb => ?_⟩
      simp at hb
      rw [hb, hnum a (hi.stack_vis h1), hni]
      exact idxOf_lt (hi.stack_vis h1)
    · show (s.stack ++ [i]).Pairwise _
      rw [List.pairwise_append]
      exact ⟨hi.up, by simp, fun a h1 b hb => by simp at hb; subst hb; exact ha a h1⟩
    · rintro x (hx | rfl)
      · exact List.mem_append_left _ (hi.pg x hx)
      · exact List.mem_append_right _ (by simp)
    · intro y hy
      rcases List.mem_append.1 hy with hy | hy
      · obtain ⟨x, h1, h2, h3⟩ := hi.dn y hy
        exact ⟨x, .inl h1, by rw [hnum x (hi.stack_vis (hi.pg x h1)), hnum y (hi.stack_vis hy)]; exact h2, h3⟩
      · simp at hy; subst hy
        exact ⟨y, .inr rfl, Nat.le_refl _, .refl _⟩
    · intro x
      show x ∈ s.vis ++ [i] ↔ x ∈ s.stack ++ [i] ∨ _
      rw [List.mem_append, List.mem_append, hi.part x]
      constructor
      · rintro ((h | h) | h)
        · exact .inl (.inl h)
        · exact .inr h
        · exact .inl (.inr h)
      · rintro ((h | h) | h)
        · exact .inl (.inl h)
        · exact .inr h
        · exact .inl (.inr h)
    · intro x hx hc
      rcases List.mem_append.1 hx with hx | hx
      · exact hi.apart x hx hc
      · simp at hx; subst hx; exact hf ((hi.part x).2 (.inr hc))
    · intro x hx hp y hy
      rcases List.mem_append.1 hx with hx | hx
      · exact List.mem_append_left _ (hi.bl x hx (fun h => hp (.inl h)) y hy)
      · simp at hx; exact absurd (.inr hx) hp
  · intro x hx
    exact upd_other _ _ (fun e => hf (e ▸ hx))
  · show upd s.low i s.vis.length i ≤ _
    rw [upd_same, hni]; exact Nat.le_refl _
  · refine ⟨i, List.mem_append_right _ (by simp), ?_, .refl _⟩
    show _ = upd s.low i s.vis.length i
    rw [upd_same, hni]

theorem LI.mem {P : Nat → Prop} {i : Nat} {s0 s : TS} {ks : List Nat} (h : LI G P i s0 ks s) : i ∈ s.stack := by
  obtain ⟨new, h1, _⟩ := h.stk; rw [h1]; simp
theorem LI.vis0 {P : Nat → Prop} {i : Nat} {s0 s : TS} {ks : List Nat} (h : LI G P i s0 ks s) {x : Nat} (hx : x ∈ s0.vis) : x ∈ s.vis := by
  obtain ⟨l, h1⟩ := h.vis; rw [h1]; exact List.mem_append_left _ hx
theorem LI.stk0 {P : Nat → Prop} {i : Nat} {s0 s : TS} {ks : List Nat} (h : LI G P i s0 ks s) {x : Nat} (hx : x ∈ s0.stack) : x ∈ s.stack := by
  obtain ⟨l, h1, _⟩ := h.stk; rw [h1]; exact List.mem_append_left _ hx
theorem LI.numi {P : Nat → Prop} {i : Nat} {s0 s : TS} {ks : List Nat} (h : LI G P i s0 ks s) : s.num i = s0.vis.length := by
  obtain ⟨l, h1⟩ := h.vis; unfold TS.num; rw [h1]; exact idxOf_new h.pre.fresh
theorem LI.num0 {P : Nat → Prop} {i : Nat} {s0 s : TS} {ks : List Nat} (h : LI G P i s0 ks s) {x : Nat} (hx : x ∈ s0.vis) : s.num x = s0.num x := by
  obtain ⟨l, h1⟩ := h.vis; unfold TS.num; rw [h1]; exact idxOf_app hx

/-- all of the stack leads to i -/
theorem LI.all {P : Nat → Prop} {i : Nat} {s0 s : TS} {ks : List Nat} (h : LI G P i s0 ks s) : ∀ y ∈ s.stack, Rch G y i := by
  intro y hy
  obtain ⟨x, hx, _, hr⟩ := h.inv.dn y hy
  rcases hx with hx | rfl
  · exact hr.trans (h.pre.all x (h.pre.inv.pg x hx))
  · exact hr

/-- what was laid on the stack behind the old ones has a number that is no less than that of i -/
theorem LI.behind {P : Nat → Prop} {i : Nat} {s0 s : TS} {ks : List Nat} (h : LI G P i s0 ks s) {z : Nat} (hz : z ∈ s.stack) (hn : s.num z < s.num i) : z ∈ s0.stack := by
  obtain ⟨new, h1, _⟩ := h.stk
  have ho := h.inv.ord
  rw [h1] at hz ho
  rcases List.mem_append.1 hz with hz | hz
  · exact hz
  · rw [List.pairwise_append] at ho
    rcases List.mem_cons.1 hz with rfl | hz
    · omega
    · have := (List.pairwise_cons.1 ho.2.1).1 z hz; omega

/-- a visit of an edge's end may begin -/
theorem LI.child {P : Nat → Prop} {i k : Nat} {s0 s : TS} {ks : List Nat} (h : LI G P i s0 ks s) (hk : k ∈ G i) (hf : k ∉ s.vis) : Pre G (fun x => P x ∨ x = i) k s :=
  ⟨h.inv, hf, fun y hy => (h.all y hy).snoc hk⟩

/-- a change of the least numbers is none of the rest -/
theorem Inv.lower {P : Nat → Prop} {s : TS} (h : Inv G P s) (i v : Nat) : Inv G P (s.lower i v) := ⟨h.vn, h.ord, h.up, h.pg, h.dn, h.cl, h.sc, h.part, h.apart, h.once, h.ne, h.bl⟩

theorem LI.fresh {P : Nat → Prop} {i k : Nat} {s0 s s1 : TS} {ks : List Nat} (h : LI G P i s0 ks s) (hk : k ∈ G i) (hf : k ∉ s.vis) (hp : Post G (fun x => P x ∨ x = i) k s s1) :
    LI G P i s0 (ks ++ [k]) (s1.lower i (s1.low k)) := by
  obtain ⟨l, hl⟩ := h.vis
  obtain ⟨l', hl'⟩ := hp.vis
  have hi : i ∈ s.vis := h.inv.stack_vis h.mem
  have hki : k ≠ i := fun e => hf (e ▸ hi)
  have hnum : ∀ x ∈ s.vis, s1.num x = s.num x := fun x hx => by unfold TS.num; rw [hl']; exact idxOf_app hx
  have hnk : s1.num k = s.vis.length := by unfold TS.num; rw [hl']; exact idxOf_new hf
  have hlowi : s1.low i = s.low i := hp.low i hi
  have hmin : (s1.lower i (s1.low k)).low i = min (s.low i) (s1.low k) := by show upd _ _ _ _ = _; rw [upd_same, hlowi]
  have hv1 : ∀ x ∈ s.vis, x ∈ s1.vis := fun x hx => by rw [hl']; exact List.mem_append_left _ hx
  have hni : s.num i < s.vis.length := idxOf_lt hi
  refine ⟨hp.inv.lower _ _, h.pre, ⟨l ++ k :: l', by show s1.vis = _; rw [hl', hl]; simp⟩, ?_, ?_, ?_, ?_, ?_, ?_, ?_⟩
  · obtain ⟨c, hc⟩ := h.comps
    obtain ⟨c', hc'⟩ := hp.comps
    exact ⟨c ++ c', by show s1.comps = _; rw [hc', hc, List.append_assoc]⟩
  · intro x hx
    show upd _ _ _ _ = _
    rw [upd_other _ _ (fun e : x = i => h.pre.fresh (by rw [← e]; exact hx)), hp.low x (h.vis0 hx), h.low x hx]
  · intro x hx
    rcases List.mem_append.1 hx with hx | hx
    · exact hv1 x (h.done x hx)
    · simp at hx; subst hx; show x ∈ s1.vis; rw [hl']; simp
  · rw [hmin]
    show _ ≤ s1.num i
    rw [hnum i hi]
    exact Nat.le_trans (Nat.min_le_left _ _) h.lo1
  · rw [hmin]
    by_cases hlt : s1.low k < s.low i
    · obtain ⟨z, hz, h1, h2, h3⟩ := hp.lo2
      refine ⟨z, ?_, by show s1.num z = _; rw [h1]; omega, .step hk h2⟩
      rcases h3 with h3 | rfl
      · exact h3
      · have := h.lo1; rw [hnk] at h1; omega
    · obtain ⟨z, hz, h1, h2⟩ := h.lo2
      obtain ⟨new, hn, _⟩ := hp.stk
      refine ⟨z, by show z ∈ s1.stack; rw [hn]; exact List.mem_append_left _ hz, ?_, h2⟩
      show s1.num z = _
      rw [hnum z (h.inv.stack_vis hz), h1]; omega
  · intro x hx hx0
    rw [hmin]
    show _ ≤ s1.num x
    rcases List.mem_append.1 hx with hx | hx
    · rw [hnum x (h.done x hx)]
      exact Nat.le_trans (Nat.min_le_left _ _) (h.lo4 x hx hx0)
    · simp at hx; subst hx; exact absurd (h.inv.stack_vis (h.stk0 hx0)) hf
  · obtain ⟨new, hn, h1⟩ := h.stk
    obtain ⟨new', hn', h1'⟩ := hp.stk
    refine ⟨new ++ new', by show s1.stack = _; rw [hn', hn]; simp, ?_⟩
    intro y hy z hz hz0
    rw [hmin]
    show _ ≤ s1.num z
    rcases List.mem_append.1 hy with hy | hy
    · rw [hnum z (h.vis0 (h.pre.inv.stack_vis hz0))]
      exact Nat.le_trans (Nat.min_le_left _ _) (h1 y hy z hz hz0)
    · exact Nat.le_trans (Nat.min_le_right _ _) (h1' y hy z hz (h.stk0 hz0))

theorem LI.on {P : Nat → Prop} {i k : Nat} {s0 s : TS} {ks : List Nat} (h : LI G P i s0 ks s) (hk : k ∈ G i) (hs : k ∈ s.stack) : LI G P i s0 (ks ++ [k]) (s.lower i (s.num k)) := by
  have hmin : (s.lower i (s.num k)).low i = min (s.low i) (s.num k) := by show upd _ _ _ _ = _; rw [upd_same]
  refine ⟨h.inv.lower _ _, h.pre, h.vis, h.comps, ?_, ?_, ?_, ?_, ?_, ?_⟩
  · intro x hx
    show upd _ _ _ _ = _
    rw [upd_other _ _ (fun e : x = i => h.pre.fresh (by rw [← e]; exact hx)), h.low x hx]
  · intro x hx
    rcases List.mem_append.1 hx with hx | hx
    · exact h.done x hx
    · simp at hx; subst hx; exact h.inv.stack_vis hs
  · rw [hmin]; exact Nat.le_trans (Nat.min_le_left _ _) h.lo1
  · rw [hmin]
    by_cases hlt : s.num k < s.low i
    · exact ⟨k, hs, by show s.num k = _; omega, .edge hk⟩
    · obtain ⟨z, hz, h1, h2⟩ := h.lo2
      exact ⟨z, hz, by show s.num z = _; omega, h2⟩
  · intro x hx hx0
    rw [hmin]
    rcases List.mem_append.1 hx with hx | hx
    · exact Nat.le_trans (Nat.min_le_left _ _) (h.lo4 x hx hx0)
    · simp at hx; subst hx; exact Nat.min_le_right _ _
  · obtain ⟨new, hn, h1⟩ := h.stk
    exact ⟨new, hn, fun y hy z hz hz0 => by rw [hmin]; exact Nat.le_trans (Nat.min_le_left _ _) (h1 y hy z hz hz0)⟩

theorem LI.off {P : Nat → Prop} {i k : Nat} {s0 s : TS} {ks : List Nat} (h : LI G P i s0 ks s) (hv : k ∈ s.vis) (hs : k ∉ s.stack) : LI G P i s0 (ks ++ [k]) s := by
  refine ⟨h.inv, h.pre, h.vis, h.comps, h.low, ?_, h.lo1, h.lo2, ?_, h.stk⟩
  · intro x hx
    rcases List.mem_append.1 hx with hx | hx
    · exact h.done x hx
    · simp at hx; subst hx; exact hv
  · intro x hx hx0
    rcases List.mem_append.1 hx with hx | hx
    · exact h.lo4 x hx hx0
    · simp at hx; subst hx; exact absurd (h.stk0 hx0) hs

/-- a visit ends that takes nothing off -/
theorem LI.stay {P : Nat → Prop} {i : Nat} {s0 s : TS} (h : LI G P i s0 (G i) s) (hne : s.low i ≠ s.num i) : Post G P i s0 s := by
  have hlt : s.low i < s.num i := Nat.lt_of_le_of_ne h.lo1 hne
  refine ⟨⟨h.inv.vn, h.inv.ord, h.inv.up, fun x hx => h.inv.pg x (.inl hx), ?_, h.inv.cl, h.inv.sc, h.inv.part, h.inv.apart, h.inv.once, h.inv.ne, ?_⟩, h.vis, h.comps, h.low, h.lo1, ?_, ?_⟩
  · intro y hy
    obtain ⟨x, hx, h1, h2⟩ := h.inv.dn y hy
    rcases hx with hx | rfl
    · exact ⟨x, hx, h1, h2⟩
    · obtain ⟨z, hz, h3, h4⟩ := h.lo2
      obtain ⟨u, hu, h5, h6⟩ := h.inv.dn z hz
      rcases hu with hu | rfl
      · exact ⟨u, hu, by omega, h2.trans (h4.trans h6)⟩
      · omega
  · intro x hx hp y hy
    by_cases hxi : x = i
    · subst hxi; exact h.done y hy
    · exact h.inv.bl x hx (fun e => e.elim hp hxi) y hy
  · obtain ⟨z, hz, h3, h4⟩ := h.lo2
    exact ⟨z, h.inv.stack_vis hz, h3, h4, .inl hz⟩
  · obtain ⟨new, hn, h1⟩ := h.stk
    refine ⟨i :: new, hn, fun y hy z hz hz0 => ?_⟩
    rcases List.mem_cons.1 hy with rfl | hy
    · exact h.lo4 z hz hz0
    · exact h1 y hy z hz hz0

/-- the state behind a visit that takes a group off -/
def TS.pop (s : TS) (st c : List Nat) : TS := ⟨s.vis, st, s.low, s.comps ++ [c]⟩

/-- a visit ends that takes a group off -/
theorem LI.pops {P : Nat → Prop} {i : Nat} {s0 s : TS} {new : List Nat} (h : LI G P i s0 (G i) s) (he : s.low i = s.num i) (hn : s.stack = s0.stack ++ i :: new) :
    Post G P i s0 (s.pop s0.stack (i :: new)) := by
  obtain ⟨new', hn', h1⟩ := h.stk
  obtain rfl : new' = new := by rw [hn] at hn'; simpa using hn'.symm
  have hord := h.inv.ord
  have hup := h.inv.up
  rw [hn, List.pairwise_append] at hord hup
  have hsub : ∀ x ∈ i :: new', x ∈ s.stack := fun x hx => by rw [hn]; exact List.mem_append_right _ hx
  have hdis : ∀ x ∈ i :: new', x ∉ s0.stack := fun x hx h0 => by have := hord.2.2 x h0 x hx; omega
  have hsv : ∀ x ∈ i :: new', x ∈ s.vis := fun x hx => h.inv.stack_vis (hsub x hx)
  have hir : ∀ x ∈ i :: new', Rch G i x := fun x hx => by
    rcases List.mem_cons.1 hx with rfl | hx
    · exact .refl _
    · exact (List.pairwise_cons.1 hup.2.1).1 x hx
  -- an edge out of the group leads to what was taken off before, or stays
  have hedge : ∀ x ∈ i :: new', ∀ y ∈ G x, y ∈ i :: new' ∨ y ∈ s.comps.flatten := by
    intro x hx y hy
    have hyv : y ∈ s.vis := by
      rcases List.mem_cons.1 hx with rfl | hx'
      · exact h.done y hy
      · refine h.inv.bl x (hsv x hx) (fun e => ?_) y hy
        rcases e with e | rfl
        · exact hdis x hx (h.pre.inv.pg x e)
        · have := (List.pairwise_cons.1 hord.2.1).1 x hx'; omega
    rcases (h.inv.part y).1 hyv with hs | hc
    · rw [hn] at hs
      rcases List.mem_append.1 hs with h0 | h0
      · have hy0 : s.num y < s.num i := hord.2.2 y h0 i (by simp)
        rcases List.mem_cons.1 hx with rfl | hx'
        · have := h.lo4 y hy h0; omega
        · have := h1 x hx' y hy h0; omega
      · exact .inl h0
    · exact .inr hc
  have hfl : ∀ x, x ∈ (s.pop s0.stack (i :: new')).comps.flatten ↔ x ∈ s.comps.flatten ∨ x ∈ i :: new' := by
    intro x; show x ∈ (s.comps ++ [i :: new']).flatten ↔ _
    rw [List.flatten_append, List.mem_append]; simp
  refine ⟨⟨h.inv.vn, hord.1, hup.1, h.pre.inv.pg, ?_, ?_, ?_, ?_, ?_, ?_, ?_, ?_⟩, h.vis, ?_, h.low, ?_, ?_, ⟨[], by simp [TS.pop], by simp⟩⟩
  · intro y hy
    obtain ⟨x, hx, h2, h3⟩ := h.pre.inv.dn y hy
    refine ⟨x, hx, ?_, h3⟩
    show s.num x ≤ s.num y
    rw [h.num0 (h.pre.inv.stack_vis (h.pre.inv.pg x hx)), h.num0 (h.pre.inv.stack_vis hy)]; exact h2
  · intro x hx y hy
    rw [hfl] at hx ⊢
    rcases hx with hx | hx
    · exact .inl (h.inv.cl x hx y hy)
    · exact (hedge x hx y hy).symm
  · intro c hc x hx y
    rcases List.mem_append.1 hc with hc | hc
    · exact h.inv.sc c hc x hx y
    · simp at hc; subst hc
      constructor
      · intro hy
        exact ⟨(h.all x (hsub x hx)).trans (hir y hy), (h.all y (hsub y hy)).trans (hir x hx)⟩
      · rintro ⟨hxy, hyx⟩
        have hst : y ∈ i :: new' ∨ y ∈ s.comps.flatten := by
          refine Rch.stays (C := fun y => y ∈ i :: new' ∨ y ∈ s.comps.flatten) ?_ hxy (.inl hx)
          rintro u (hu | hu) v hv
          · exact hedge u hu v hv
          · exact .inr (h.inv.cl u hu v hv)
        rcases hst with hst | hst
        · exact hst
        · exact absurd (Rch.stays (C := fun y => y ∈ s.comps.flatten) (fun u hu v hv => h.inv.cl u hu v hv) hyx hst) (h.inv.apart x (hsub x hx))
  · intro x
    rw [hfl]
    show x ∈ s.vis ↔ x ∈ s0.stack ∨ _
    rw [h.inv.part x, hn, List.mem_append]
    constructor
    · rintro ((h | h) | h)
      · exact .inl h
      · exact .inr (.inr h)
      · exact .inr (.inl h)
    · rintro (h | h | h)
      · exact .inl (.inl h)
      · exact .inr h
      · exact .inl (.inr h)
  · intro x hx hc
    rw [hfl] at hc
    rcases hc with hc | hc
    · exact h.inv.apart x (h.stk0 hx) hc
    · exact hdis x hc hx
  · show ((s.comps ++ [i :: new']).flatten).Nodup
    rw [List.flatten_append, List.nodup_append]
    refine ⟨h.inv.once, ?_, ?_⟩
    · simp only [List.flatten_cons, List.flatten_nil, List.append_nil]
      exact List.Pairwise.imp (fun {a b} hab e => by subst e; omega) hord.2.1
    · intro a ha b hb e
      simp only [List.flatten_cons, List.flatten_nil, List.append_nil] at hb
      subst e
      exact h.inv.apart a (hsub a hb) ha
  · intro c hc
    rcases List.mem_append.1 hc with hc | hc
    · exact h.inv.ne c hc
    · simp at hc; subst hc; simp
  · intro x hx hp y hy
    by_cases hxi : x = i
    · subst hxi; exact h.done y hy
    · exact h.inv.bl x hx (fun e => e.elim hp hxi) y hy
  · obtain ⟨c, hc⟩ := h.comps
    exact ⟨c ++ [i :: new'], by show s.comps ++ _ = _; rw [hc, List.append_assoc]⟩
  · show s.low i ≤ s.num i; omega
  · exact ⟨i, hsv i (by simp), he.symm, .refl _, .inr rfl⟩

/-- nothing has been visited -/
def TS.start : TS := ⟨[], [], fun _ => 0, []⟩
theorem start_inv (G : Nat → List Nat) : Inv G (fun _ => False) TS.start := by
  refine ⟨List.nodup_nil, .nil, .nil, fun _ h => h.elim, ?_, ?_, ?_, ?_, ?_, List.nodup_nil, ?_, ?_⟩ <;> simp [TS.start]

/-- between two visits of the outermost loop the stack is empty -/
theorem Inv.empty {s : TS} (h : Inv G (fun _ => False) s) : s.stack = [] := by
  cases e : s.stack with
  | nil => rfl
  | cons x l => obtain ⟨_, hf, _⟩ := h.dn x (by rw [e]; simp); exact hf.elim
theorem Inv.outer {s : TS} {i : Nat} (h : Inv G (fun _ => False) s) (hi : i ∉ s.vis) : Pre G (fun _ => False) i s := ⟨h, hi, fun y hy => by rw [h.empty] at hy; cases hy⟩

end Go.Proofs.YtihpoecdnchioaaGreatDoor.Tj

namespace Go.Proofs.YtihpoecdnchioaaGreatDoor.Tj

/-- two lists in strict order of a key with the same members are equal -/
theorem eq_of_sorted {α : Type} (key : α → Nat) : ∀ {l m : List α}, l.Pairwise (fun a b => key a < key b) → m.Pairwise (fun a b => key a < key b) → (∀ x, x ∈ l ↔ x ∈ m) → l = m
  | [], [], _, _, _ => rfl
  | [], b :: m, _, _, h => by have := (h b).2 (by simp); simp at this
  | a :: l, [], _, _, h => by have := (h a).1 (by simp); simp at this
  | a :: l, b :: m, hl, hm, h => by
    rw [List.pairwise_cons] at hl hm
    obtain rfl : a = b := by
      rcases List.mem_cons.1 ((h a).1 (by simp)) with e | e
      · exact e
      · rcases List.mem_cons.1 ((h b).2 (by simp)) with e' | e'
        · exact e'.symm
        · have := hl.1 b e'; have := hm.1 a e; omega
    rw [eq_of_sorted key hl.2 hm.2 fun x => ?_]
    constructor
    · intro hx
      rcases List.mem_cons.1 ((h x).1 (List.mem_cons_of_mem _ hx)) with e | e
      · subst e; have := hl.1 _ hx; omega
      · exact e
    · intro hx
      rcases List.mem_cons.1 ((h x).2 (List.mem_cons_of_mem _ hx)) with e | e
      · subst e; have := hm.1 _ hx; omega
      · exact e

/-- whether a chain of at least one edge leads from the one to the other, by way of nodes below m alone -/
def fw (e : Nat → Nat → Bool) : Nat → Nat → Nat → Bool
  | 0 => e
  | m + 1 => fun i k => fw e m i k || (fw e m i m && fw e m m k)

inductive Pl (e : Nat → Nat → Bool) (m : Nat) : Nat → Nat → Prop where
  | edge {i k : Nat} : e i k = true → Pl e m i k
  | cons {i x k : Nat} : e i x = true → x < m → Pl e m x k → Pl e m i k

theorem Pl.mono {e : Nat → Nat → Bool} {m m' i k : Nat} (hm : m ≤ m') (h : Pl e m i k) : Pl e m' i k := by
  induction h with
  | edge h => exact .edge h
  | cons h1 h2 _ ih => exact .cons h1 (by omega) ih
theorem Pl.trans {e : Nat → Nat → Bool} {m i x k : Nat} (h : Pl e m i x) (hx : x < m) (h' : Pl e m x k) : Pl e m i k := by
  induction h with
  | edge h => exact .cons h hx h'
  | cons h1 h2 _ ih => exact .cons h1 h2 (ih hx h')

theorem fw_iff (e : Nat → Nat → Bool) : ∀ (m i k : Nat), fw e m i k = true ↔ Pl e m i k
  | 0, i, k => ⟨fun h => .edge h, fun h => by cases h with | edge h => exact h | cons _ h _ => omega⟩
  | m + 1, i, k => by
    have ih := fw_iff e m
    have hor : ∀ i k, fw e (m + 1) i k = true ↔ fw e m i k = true ∨ (fw e m i m = true ∧ fw e m m k = true) := by
      intro i k; rw [fw]; simp
    constructor
    · intro h
      rcases (hor i k).1 h with h | ⟨h1, h2⟩
      · exact ((ih i k).1 h).mono (by omega)
      · exact (((ih i m).1 h1).mono (by omega)).trans (by omega) (((ih m k).1 h2).mono (by omega))
    · intro h
      induction h with
      | edge h => exact (hor _ _).2 (.inl ((ih _ _).2 (.edge h)))
      | @cons i x k h1 h2 _ ih2 =>
        have hix : fw e m i x = true := (ih _ _).2 (.edge h1)
        by_cases hx : x < m
        · rcases (hor x k).1 ih2 with h | ⟨h3, h4⟩
          · exact (hor i k).2 (.inl ((ih i k).2 (((ih i x).1 hix).trans hx ((ih x k).1 h))))
          · exact (hor i k).2 (.inr ⟨(ih i m).2 (((ih i x).1 hix).trans hx ((ih x m).1 h3)), h4⟩)
        · obtain rfl : x = m := by omega
          refine (hor i k).2 (.inr ⟨hix, ?_⟩)
          rcases (hor x k).1 ih2 with h | ⟨_, h4⟩
          · exact h
          · exact h4

/-- the edges of a graph as a test -/
def eB (G : Nat → List Nat) (i k : Nat) : Bool := (G i).contains k
theorem eB_iff (G : Nat → List Nat) (i k : Nat) : eB G i k = true ↔ k ∈ G i := by unfold eB; rw [List.contains_iff_mem]

/-- a chain of at least one edge -/
theorem fw_rch {G : Nat → List Nat} {n : Nat} (hG : ∀ x, ∀ y ∈ G x, y < n) (i k : Nat) : fw (eB G) n i k = true ↔ ∃ x, x ∈ G i ∧ Rch G x k := by
  rw [fw_iff]
  constructor
  · intro h
    induction h with
    | edge h => exact ⟨_, (eB_iff _ _ _).1 h, .refl _⟩
    | cons h1 _ _ ih =>
      obtain ⟨x, h3, h4⟩ := ih
      exact ⟨_, (eB_iff _ _ _).1 h1, .step h3 h4⟩
  · rintro ⟨x, hx, hr⟩
    induction hr generalizing i with
    | refl x => exact .edge ((eB_iff _ _ _).2 hx)
    | step h1 _ ih => exact .cons ((eB_iff _ _ _).2 hx) (hG _ _ hx) (ih _ h1)

/-- both lead to each other, by at least one edge -/
def mutB (e : Nat → Nat → Bool) (n i k : Nat) : Bool := fw e n i k && fw e n k i
def firstB (e : Nat → Nat → Bool) (n i : Nat) : Bool := fw e n i i && (List.range i).all fun k => !mutB e n i k
/-- the circles, each in order, in the order of their firsts -/
def circS (e : Nat → Nat → Bool) (n : Nat) : List (List Nat) := ((List.range n).filter (firstB e n)).map fun i => (List.range n).filter (mutB e n i)

theorem range_sorted (n : Nat) : (List.range n).Pairwise (· < ·) := List.pairwise_lt_range

/-- the least that both lead to each other with a first one is that one itself -/
theorem head_first {e : Nat → Nat → Bool} {n i : Nat} (hi : i < n) (hf : firstB e n i = true) : ((List.range n).filter (mutB e n i)).head? = some i := by
  unfold firstB at hf
  rw [Bool.and_eq_true] at hf
  have hmi : mutB e n i i = true := by unfold mutB; rw [hf.1]; rfl
  have hall : ∀ k, k < i → mutB e n i k = false := fun k hk => by simpa using List.all_eq_true.1 hf.2 k (List.mem_range.2 hk)
  have hs : ((List.range n).filter (mutB e n i)).Pairwise (· < ·) := (range_sorted n).filter _
  have hm : i ∈ (List.range n).filter (mutB e n i) := List.mem_filter.2 ⟨List.mem_range.2 hi, hmi⟩
  cases hc : (List.range n).filter (mutB e n i) with
  | nil => rw [hc] at hm; cases hm
  | cons a l =>
    rw [hc] at hs hm
    have ha : a ∈ (List.range n).filter (mutB e n i) := by rw [hc]; simp
    rcases List.mem_cons.1 hm with rfl | hm
    · rfl
    · have := (List.pairwise_cons.1 hs).1 i hm
      have h2 := hall a this
      rw [(List.mem_filter.1 ha).2] at h2; cases h2

/-- whether a group is told: it has more than one member, or one that leads to itself -/
def nontriv (G : Nat → List Nat) : List Nat → Bool
  | [] => false
  | x :: l => !l.isEmpty || (G x).contains x

/-- a list's first member -/
def key (l : List Nat) : Nat := l.head?.getD 0

theorem circS_sorted (e : Nat → Nat → Bool) (n : Nat) : (circS e n).Pairwise fun a b => key a < key b := by
  unfold circS
  rw [List.pairwise_map]
  refine List.Pairwise.imp_of_mem (fun {a b} ha hb hab => ?_) ((range_sorted n).filter (firstB e n))
  have h1 := List.mem_filter.1 ha
  have h2 := List.mem_filter.1 hb
  unfold key
  rw [head_first (List.mem_range.1 h1.1) h1.2, head_first (List.mem_range.1 h2.1) h2.2]
  exact hab

/-- What Tarjan's way has found, each group in order, in the order of their firsts, is the circles. -/
theorem circ_of_comps {G : Nat → List Nat} {n : Nat} {s : TS} (hG : ∀ x, ∀ y ∈ G x, y < n) (hi : Inv G (fun _ => False) s) (hv : ∀ x, x ∈ s.vis ↔ x < n)
    (srt : List Nat → List Nat) (hsm : ∀ c x, x ∈ srt c ↔ x ∈ c) (hss : ∀ c, c ∈ s.comps → (srt c).Pairwise (· < ·))
    (out : List (List Nat)) (hm : ∀ x, x ∈ out ↔ x ∈ (s.comps.filter (nontriv G)).map srt) (ho : out.Pairwise fun a b => key a < key b) :
    out = circS (eB G) n := by
  refine eq_of_sorted key ho (circS_sorted _ _) fun x => ?_
  rw [hm]
  have hst := hi.empty
  have hin : ∀ x, x < n → x ∈ s.comps.flatten := fun x hx => by
    rcases (hi.part x).1 ((hv x).2 hx) with h | h
    · rw [hst] at h; cases h
    · exact h
  have hlt : ∀ c ∈ s.comps, ∀ x ∈ c, x < n := fun c hc x hx => (hv x).1 ((hi.part x).2 (.inr (List.mem_flatten.2 ⟨c, hc, hx⟩)))
  -- a member of a told group lies on a circle
  have hself : ∀ c ∈ s.comps, nontriv G c = true → ∀ x ∈ c, fw (eB G) n x x = true := by
    intro c hc hn x hx
    rw [fw_rch hG]
    cases c with
    | nil => cases hx
    | cons a l =>
      have two : ∀ u v, u ∈ a :: l → v ∈ a :: l → u ≠ v → ∃ y, y ∈ G u ∧ Rch G y u := by
        intro u v hu hv' huv
        obtain ⟨h1, h2⟩ := (hi.sc _ hc u hu v).1 hv'
        cases h1 with
        | refl _ => exact absurd rfl huv
        | step e r => exact ⟨_, e, r.trans h2⟩
      simp only [nontriv, Bool.or_eq_true, Bool.not_eq_true', List.contains_iff_mem] at hn
      have hnd : (a :: l).Nodup := (List.sublist_flatten_of_mem hc).nodup hi.once
      rcases hn with hn | hn
      · cases l with
        | nil => simp at hn
        | cons b l =>
          have hab : a ≠ b := fun e => by rw [e] at hnd; simp at hnd
          by_cases hxa : x = a
          · exact two x b hx (by simp) (by rw [hxa]; exact hab)
          · exact two x a hx (by simp) hxa
      · by_cases hxa : x = a
        · rw [hxa]; exact ⟨a, hn, .refl _⟩
        · exact two x a hx (by simp) hxa
  have hmut : ∀ c ∈ s.comps, nontriv G c = true → ∀ x ∈ c, ∀ y, mutB (eB G) n x y = true ↔ y ∈ c := by
    intro c hc hn x hx y
    unfold mutB
    rw [Bool.and_eq_true, hi.sc c hc x hx y]
    constructor
    · rintro ⟨h1, h2⟩
      rw [fw_rch hG] at h1 h2
      obtain ⟨u, h3, h4⟩ := h1
      obtain ⟨v, h5, h6⟩ := h2
      exact ⟨.step h3 h4, .step h5 h6⟩
    · rintro ⟨h1, h2⟩
      by_cases hxy : x = y
      · subst hxy; exact ⟨hself c hc hn x hx, hself c hc hn x hx⟩
      · have hstep : ∀ u v, u ≠ v → Rch G u v → fw (eB G) n u v = true := by
          intro u v huv hr
          rw [fw_rch hG]
          cases hr with
          | refl _ => exact absurd rfl huv
          | step e r => exact ⟨_, e, r⟩
        exact ⟨hstep x y hxy h1, hstep y x (Ne.symm hxy) h2⟩
  have heq : ∀ c ∈ s.comps, nontriv G c = true → ∀ x ∈ c, srt c = (List.range n).filter (mutB (eB G) n x) := by
    intro c hc hn x hx
    refine eq_of_sorted id (hss c hc) ((range_sorted n).filter _) fun y => ?_
    rw [hsm, List.mem_filter, List.mem_range, hmut c hc hn x hx]
    exact ⟨fun h => ⟨hlt c hc y h, h⟩, fun h => h.2⟩
  unfold circS
  constructor
  · intro hx
    obtain ⟨c, hc, rfl⟩ := List.mem_map.1 hx
    obtain ⟨hc, hn⟩ := List.mem_filter.1 hc
    -- the least member
    obtain ⟨a, ha⟩ : ∃ a, a ∈ c := by
      cases c with
      | nil => cases hn
      | cons a l => exact ⟨a, by simp⟩
    obtain ⟨i, l, hil⟩ : ∃ i l, srt c = i :: l := by
      cases h : srt c with
      | nil => have := (hsm c a).2 ha; rw [h] at this; cases this
      | cons i l => exact ⟨i, l, rfl⟩
    have hic : i ∈ c := (hsm c i).1 (by rw [hil]; simp)
    have hmin : ∀ k ∈ c, i ≤ k := fun k hk => by
      have h1 := (hsm c k).2 hk
      have h2 := hss c hc
      rw [hil] at h1 h2
      rcases List.mem_cons.1 h1 with rfl | h1
      · exact Nat.le_refl _
      · exact Nat.le_of_lt ((List.pairwise_cons.1 h2).1 k h1)
    refine List.mem_map.2 ⟨i, List.mem_filter.2 ⟨List.mem_range.2 (hlt c hc i hic), ?_⟩, (heq c hc hn i hic).symm⟩
    unfold firstB
    rw [hself c hc hn i hic, Bool.true_and, List.all_eq_true]
    intro k hk
    rw [Bool.not_eq_true', Bool.eq_false_iff]
    intro hm
    have := hmin k ((hmut c hc hn i hic k).1 hm)
    have := List.mem_range.1 hk
    omega
  · intro hx
    obtain ⟨i, hif, rfl⟩ := List.mem_map.1 hx
    obtain ⟨hin', hf⟩ := List.mem_filter.1 hif
    unfold firstB at hf
    rw [Bool.and_eq_true] at hf
    obtain ⟨c, hc, hic⟩ := List.mem_flatten.1 (hin i (List.mem_range.1 hin'))
    have hn : nontriv G c = true := by
      obtain ⟨y, hy, hr⟩ := (fw_rch hG i i).1 hf.1
      cases c with
      | nil => cases hic
      | cons a l =>
        cases l with
        | nil =>
          obtain rfl : i = a := by simpa using hic
          have : y ∈ [i] := (hi.sc _ hc i hic y).2 ⟨.edge hy, hr⟩
          simp at this; subst this
          simp [nontriv, hy]
        | cons b l => simp [nontriv]
    exact List.mem_map.2 ⟨c, List.mem_filter.2 ⟨hc, hn⟩, heq c hc hn i hic⟩

/-- without circles there is a number that every edge lowers -/
theorem rank_of_none {G : Nat → List Nat} {n : Nat} (hG : ∀ x, ∀ y ∈ G x, y < n) (h : circS (eB G) n = []) :
    ∃ rk : Nat → Nat, ∀ x, x < n → ∀ y ∈ G x, rk y < rk x := by
  have hno : ∀ x, x < n → fw (eB G) n x x = false := by
    intro x hx
    rw [Bool.eq_false_iff]
    intro hxx
    -- the least that is mutual with x is a first one
    have hex : ∃ i, i < n ∧ fw (eB G) n i i = true := ⟨x, hx, hxx⟩
    have aux : ∀ m, (∃ i, i < m ∧ i < n ∧ fw (eB G) n i i = true) → ∃ i, i < n ∧ firstB (eB G) n i = true := by
      intro m
      induction m with
      | zero => rintro ⟨i, h, _⟩; omega
      | succ m ih =>
        rintro ⟨i, h1, h2, h3⟩
        by_cases hf : firstB (eB G) n i = true
        · exact ⟨i, h2, hf⟩
        · unfold firstB at hf
          rw [h3, Bool.true_and, Bool.not_eq_true, List.all_eq_false] at hf
          obtain ⟨k, hk, hm⟩ := hf
          have hm' : mutB (eB G) n i k = true := by simpa using hm
          unfold mutB at hm'
          rw [Bool.and_eq_true] at hm'
          have hki := List.mem_range.1 hk
          refine ih ⟨k, by omega, by omega, ?_⟩
          rw [fw_rch hG] at hm' ⊢
          obtain ⟨⟨a, ha, hb⟩, hki2⟩ := hm'
          obtain ⟨c, hc, hd⟩ := (fw_rch hG k i).1 hki2
          exact ⟨c, hc, hd.trans (.step ha hb)⟩
    obtain ⟨i, h1, h2⟩ := aux (x + 1) ⟨x, by omega, hx, hxx⟩
    have : (List.range n).filter (mutB (eB G) n i) ∈ circS (eB G) n := List.mem_map.2 ⟨i, List.mem_filter.2 ⟨List.mem_range.2 h1, h2⟩, rfl⟩
    rw [h] at this; cases this
  refine ⟨fun x => (List.range n).countP fun y => decide (y = x) || fw (eB G) n x y, fun x hx y hy => ?_⟩
  have hsub : ∀ z, (decide (z = y) || fw (eB G) n y z) = true → (decide (z = x) || fw (eB G) n x z) = true := by
    intro z hz
    rw [Bool.or_eq_true, decide_eq_true_iff] at hz
    rw [Bool.or_eq_true]
    right
    rw [fw_rch hG]
    rcases hz with rfl | hz
    · exact ⟨_, hy, .refl _⟩
    · obtain ⟨a, h1, h2⟩ := (fw_rch hG y z).1 hz
      exact ⟨y, hy, .step h1 h2⟩
  have hxn : (decide (x = y) || fw (eB G) n y x) = false := by
    rw [Bool.eq_false_iff, ne_eq, Bool.or_eq_true, decide_eq_true_iff]
    rintro (rfl | hc)
    · have := hno x hx
      rw [(fw_rch hG x x).2 ⟨x, hy, .refl _⟩] at this; cases this
    · obtain ⟨a, h1, h2⟩ := (fw_rch hG y x).1 hc
      have := hno x hx
      rw [(fw_rch hG x x).2 ⟨y, hy, .step h1 h2⟩] at this; cases this
  have aux : ∀ (l : List Nat) (p q : Nat → Bool), (∀ z, p z = true → q z = true) → ∀ x ∈ l, p x = false → q x = true → l.countP p < l.countP q := by
    intro l p q hpq
    induction l with
    | nil => intro x h; cases h
    | cons a l ih =>
      intro x hxl hp hq
      have hmono : l.countP p ≤ l.countP q := List.countP_mono_left fun z _ => hpq z
      rw [List.countP_cons, List.countP_cons]
      rcases List.mem_cons.1 hxl with rfl | hxl
      · rw [hp, hq]; simp; omega
      · have := ih x hxl hp hq
        by_cases hpa : p a = true
        · rw [hpa, hpq a hpa]; simpa using this
        · rw [Bool.eq_false_iff.2 hpa]; simp; split <;> omega
  exact aux _ _ _ hsub x (List.mem_range.2 hx) hxn (by simp)

end Go.Proofs.YtihpoecdnchioaaGreatDoor.Tj

namespace Go.Proofs.YtihpoecdnchioaaGreatDoor
open Tj

/-- whether provision i applies, with so much fuel -/
def apF (h : Nat → Bool) (rows : List (List Nat)) : Nat → Nat → Bool
  | 0, _ => false
  | m + 1, i => h i && !(rows.getD i []).any (apF h rows m)

theorem apF_stable (h : Nat → Bool) (rows : List (List Nat)) (n : Nat) (hl : ∀ x, ∀ y ∈ rows.getD x [], y < n) (rk : Nat → Nat) (hrk : ∀ x, x < n → ∀ y ∈ rows.getD x [], rk y < rk x) :
    ∀ m m' i, i < n → rk i < m → rk i < m' → apF h rows m i = apF h rows m' i
  | 0, _, _, _, h1, _ => by omega
  | _ + 1, 0, _, _, _, h2 => by omega
  | m + 1, m' + 1, i, hi, h1, h2 => by
    unfold apF
    congr 2
    rw [Bool.eq_iff_iff, List.any_eq_true, List.any_eq_true]
    constructor
    · rintro ⟨y, hy, he⟩
      have := hrk i hi y hy
      exact ⟨y, hy, by rw [← apF_stable h rows n hl rk hrk m m' y (hl i y hy) (by omega) (by omega)]; exact he⟩
    · rintro ⟨y, hy, he⟩
      have := hrk i hi y hy
      exact ⟨y, hy, by rw [apF_stable h rows n hl rk hrk m m' y (hl i y hy) (by omega) (by omega)]; exact he⟩

theorem filter_lt {α : Type} {p q : α → Bool} (h : ∀ x, p x = true → q x = true) : ∀ (l : List α) (y : α), y ∈ l → p y = false → q y = true → (l.filter p).length < (l.filter q).length
  | [], _, hy, _, _ => by cases hy
  | a :: l, y, hy, h1, h2 => by
    have hle : (l.filter p).length ≤ (l.filter q).length := by
      clear hy
      induction l with
      | nil => simp
      | cons b l ih =>
        rw [List.filter_cons, List.filter_cons]
        by_cases hb : p b = true
        · rw [if_pos hb, if_pos (h b hb)]; simp only [List.length_cons]; omega
        · rw [if_neg hb]; split
          · simp only [List.length_cons]; omega
          · exact ih
    rw [List.filter_cons, List.filter_cons]
    rcases List.mem_cons.1 hy with rfl | hy
    · rw [if_neg (by rw [h1]; simp), if_pos h2]; simp only [List.length_cons]; omega
    · have := filter_lt h l y hy h1 h2
      by_cases hb : p a = true
      · rw [if_pos hb, if_pos (h a hb)]; simp only [List.length_cons]; omega
      · rw [if_neg hb]; split
        · simp only [List.length_cons]; omega
        · exact this

/-- a rank below a bound -/
theorem rank_le {G : Nat → List Nat} {n : Nat} (hG : ∀ x, ∀ y ∈ G x, y < n) (h : circS (eB G) n = []) :
    ∃ rk : Nat → Nat, (∀ x, rk x ≤ n) ∧ ∀ x, x < n → ∀ y ∈ G x, rk y < rk x := by
  obtain ⟨rk, hrk⟩ := rank_of_none hG h
  refine ⟨fun x => ((List.range n).filter fun y => decide (rk y < rk x)).length, fun x => ?_, fun x hx y hy => ?_⟩
  · have := List.length_filter_le (fun y => decide (rk y < rk x)) (List.range n)
    rwa [List.length_range] at this
  · have h1 := hrk x hx y hy
    refine filter_lt (fun z hz => ?_) _ y (List.mem_range.2 (hG x y hy)) (by simp) (by simpa using h1)
    simp only [decide_eq_true_eq] at hz ⊢
    omega

/-- whether provision i applies -/
def apC (h : Nat → Bool) (rows : List (List Nat)) (n : Nat) (i : Nat) : Bool := apF h rows (n + 1) i

theorem apC_eq {h : Nat → Bool} {rows : List (List Nat)} {n : Nat} (hl : ∀ x, ∀ y ∈ rows.getD x [], y < n) (rk : Nat → Nat) (hle : ∀ x, rk x ≤ n) (hrk : ∀ x, x < n → ∀ y ∈ rows.getD x [], rk y < rk x) (i : Nat) (hi : i < n) :
    apC h rows n i = (h i && !(rows.getD i []).any (apC h rows n)) := by
  unfold apC
  rw [show apF h rows (n + 1) i = (h i && !(rows.getD i []).any (apF h rows n)) from rfl]
  congr 2
  rw [Bool.eq_iff_iff, List.any_eq_true, List.any_eq_true]
  have hi' := hle i
  constructor
  · rintro ⟨y, hy, he⟩
    have := hrk i hi y hy
    exact ⟨y, hy, by rw [← apF_stable h rows n hl rk hrk n (n + 1) y (hl i y hy) (by omega) (by omega)]; exact he⟩
  · rintro ⟨y, hy, he⟩
    have := hrk i hi y hy
    exact ⟨y, hy, by rw [apF_stable h rows n hl rk hrk n (n + 1) y (hl i y hy) (by omega) (by omega)]; exact he⟩

end Go.Proofs.YtihpoecdnchioaaGreatDoor

namespace Go.Proofs.YtihpoecdnchioaaGreatDoor.Tj

theorem fw_trans {e : Nat → Nat → Bool} {n i x k : Nat} (hx : x < n) (h : fw e n i x = true) (h' : fw e n x k = true) : fw e n i k = true :=
  (fw_iff e n i k).2 (((fw_iff e n i x).1 h).trans hx ((fw_iff e n x k).1 h'))

theorem mutB_iff {e : Nat → Nat → Bool} {n i k : Nat} : mutB e n i k = true ↔ fw e n i k = true ∧ fw e n k i = true := by unfold mutB; rw [Bool.and_eq_true]
theorem mutB_symm {e : Nat → Nat → Bool} {n i k : Nat} (h : mutB e n i k = true) : mutB e n k i = true := mutB_iff.2 ⟨(mutB_iff.1 h).2, (mutB_iff.1 h).1⟩
theorem mutB_trans {e : Nat → Nat → Bool} {n i x k : Nat} (hx : x < n) (h : mutB e n i x = true) (h' : mutB e n x k = true) : mutB e n i k = true :=
  mutB_iff.2 ⟨fw_trans hx (mutB_iff.1 h).1 (mutB_iff.1 h').1, fw_trans hx (mutB_iff.1 h').2 (mutB_iff.1 h).2⟩

/-- each of a circle has a first one -/
theorem first_of {e : Nat → Nat → Bool} {n : Nat} : ∀ (m i : Nat), i < m → i < n → fw e n i i = true → ∃ j, j < n ∧ firstB e n j = true ∧ mutB e n i j = true
  | 0, i, h, _, _ => by omega
  | m + 1, i, h, hi, hh => by
    by_cases hf : firstB e n i = true
    · exact ⟨i, hi, hf, mutB_iff.2 ⟨hh, hh⟩⟩
    · have hf2 := hf
      unfold firstB at hf2
      rw [hh, Bool.true_and, Bool.not_eq_true, List.all_eq_false] at hf2
      obtain ⟨k, hk, hm⟩ := hf2
      have hm' : mutB e n i k = true := by simpa using hm
      have hki := List.mem_range.1 hk
      obtain ⟨j, h1, h2, h3⟩ := first_of m k (by omega) (by omega) (fw_trans hi (mutB_iff.1 hm').2 (mutB_iff.1 hm').1)
      exact ⟨j, h1, h2, mutB_trans (by omega) hm' h3⟩

theorem circS_nil_iff (e : Nat → Nat → Bool) (n : Nat) : circS e n = [] ↔ ∀ i, i < n → fw e n i i = false := by
  unfold circS
  rw [List.map_eq_nil_iff, List.filter_eq_nil_iff]
  constructor
  · intro h i hi
    rw [Bool.eq_false_iff]
    intro hh
    obtain ⟨j, h1, h2, _⟩ := first_of (i + 1) i (by omega) hi hh
    exact h j (List.mem_range.2 h1) h2
  · intro h i hi hf
    unfold firstB at hf
    rw [h i (List.mem_range.1 hi)] at hf
    cases hf

/-- chains go along with an image -/
theorem fw_hom {G G' : Nat → List Nat} {n n' : Nat} (hG : ∀ x, ∀ y ∈ G x, y < n) (hG' : ∀ x, ∀ y ∈ G' x, y < n') (f : Nat → Nat) (hf : ∀ x, x < n → ∀ y ∈ G x, f y ∈ G' (f x)) {i k : Nat} (hi : i < n) (h : fw (eB G) n i k = true) :
    fw (eB G') n' (f i) (f k) = true := by
  rw [fw_rch hG] at h
  rw [fw_rch hG']
  obtain ⟨x, hx, hr⟩ := h
  refine ⟨f x, hf i hi x hx, ?_⟩
  have hxn := hG i x hx
  clear hx hi
  induction hr with
  | refl x => exact .refl _
  | step e _ ih => exact .step (hf _ hxn _ e) (ih (hG _ _ e))

theorem len_le_of_rel {α β : Type} [DecidableEq β] (R : α → β → Prop) : ∀ (l : List α) (m : List β), l.Nodup → (∀ x ∈ l, ∃ y ∈ m, R x y) → (∀ x ∈ l, ∀ x' ∈ l, ∀ y, R x y → R x' y → x = x') → l.length ≤ m.length
  | [], m, _, _, _ => by simp
  | a :: l, m, hn, he, hi => by
    obtain ⟨y, hy, hr⟩ := he a (by simp)
    have hn' := List.nodup_cons.1 hn
    have h1 := len_le_of_rel R l (m.erase y) hn'.2 (fun x hx => by
      obtain ⟨z, hz, hrz⟩ := he x (List.mem_cons_of_mem _ hx)
      refine ⟨z, (List.mem_erase_of_ne ?_).2 hz, hrz⟩
      intro e
      subst e
      have := hi a (by simp) x (List.mem_cons_of_mem _ hx) z hr hrz
      exact hn'.1 (this ▸ hx)) (fun x hx x' hx' y => hi x (List.mem_cons_of_mem _ hx) x' (List.mem_cons_of_mem _ hx') y)
    have h2 := List.length_erase_of_mem hy
    have h3 := List.length_pos_of_mem hy
    rw [List.length_cons]
    omega

/-- an image that keeps and tells chains has no fewer circles -/
theorem circS_le {e e' : Nat → Nat → Bool} {n n' : Nat} (f : Nat → Nat) (hb : ∀ x, x < n → f x < n') (hf : ∀ i k, i < n → k < n → fw e' n' (f i) (f k) = fw e n i k) : (circS e n).length ≤ (circS e' n').length := by
  unfold circS
  rw [List.length_map, List.length_map]
  refine len_le_of_rel (fun i j => j < n' ∧ mutB e' n' (f i) j = true) _ _ (List.nodup_range.filter _) (fun i hi => ?_) (fun i hi k hk j h1 h2 => ?_)
  · obtain ⟨h1, h2⟩ := List.mem_filter.1 hi
    have h1 := List.mem_range.1 h1
    have h3 : fw e n i i = true := by unfold firstB at h2; rw [Bool.and_eq_true] at h2; exact h2.1
    obtain ⟨j, h4, h5, h6⟩ := first_of (f i + 1) (f i) (by omega) (hb i h1) (by rw [hf i i h1 h1]; exact h3)
    exact ⟨j, List.mem_filter.2 ⟨List.mem_range.2 h4, h5⟩, h4, h6⟩
  · obtain ⟨a1, a2⟩ := List.mem_filter.1 hi
    obtain ⟨b1, b2⟩ := List.mem_filter.1 hk
    have a1 := List.mem_range.1 a1
    have b1 := List.mem_range.1 b1
    have hm := mutB_iff.1 (mutB_trans h1.1 h1.2 (mutB_symm h2.2))
    rw [hf i k a1 b1, hf k i b1 a1] at hm
    have hno : ∀ {x y : Nat}, firstB e n x = true → y < x → ¬ mutB e n x y = true := fun h hlt hm => by
      unfold firstB at h
      rw [Bool.and_eq_true, List.all_eq_true] at h
      have := h.2 _ (List.mem_range.2 hlt)
      rw [hm] at this
      cases this
    rcases Nat.lt_trichotomy i k with h | h | h
    · exact absurd (mutB_iff.2 ⟨hm.2, hm.1⟩) (hno b2 h)
    · exact h
    · exact absurd (mutB_iff.2 hm) (hno a2 h)

end Go.Proofs.YtihpoecdnchioaaGreatDoor.Tj

