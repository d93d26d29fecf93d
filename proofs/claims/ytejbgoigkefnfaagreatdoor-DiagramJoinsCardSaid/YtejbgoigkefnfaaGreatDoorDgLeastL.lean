/- The plain law of DiagramLeast: what Least answers at the diagram of a formula. No program. -/
import Derived.Test.YtejbgoigkefnfaaGreatDoorDgSm
import Derived.Test.YtejbgoigkefnfaaGreatDoorDgLs
namespace Go.Proofs.YtejbgoigkefnfaaGreatDoor
theorem less_case : ∀ (x y : List Int), x.length = y.length -> lessL x y = true -> lessC x.length (caseL x) (caseL y)
 | [], _, _, h => by rw [lessL] at h; cases h
 | a :: x, [], h, _ => by simp at h
 | a :: x, b :: y, hl, h => by
  rw [lessL] at h; by_cases e : a = b
  ·rw [if_pos e] at h
   obtain ⟨p, hp, h1, h2⟩ := less_case x y (by simpa using hl) h; refine ⟨p + 1, by simp; omega, ?_, fun j hj => ?_⟩
   ·show (a :: x).getD (p + 1) 0 < (b :: y).getD (p + 1) 0
    rw [List.getD_cons_succ, List.getD_cons_succ]; exact h1
   ·cases j with
    | zero => exact e
    | succ j => exact h2 j (by omega)
  ·rw [if_neg e] at h
   exact ⟨0, by simp, by simpa [caseL] using h, fun j hj => absurd hj (Nat.not_lt_zero j)⟩
variable {d : List Fa} {t : List Dn}
theorem lo_fits (hd : DomOk d) : fitsC d.length (flo d) (fhi d) (flo d) := fun i hi => ⟨Int.le_refl _, dom_le hd i hi⟩
theorem end_live (h : ValidG d t) (hl : liveN (t.getD 0 default) = true) : (t.getD (endL d t).2 default).leaf = true /\ fitsC d.length (flo d) (fhi d) (endL d t).1 /\ readG d t 0 (endL d t).1 = true /\
  ∀ e, fitsC d.length (flo d) (fhi d) e -> readG d t 0 e = true -> ¬ lessC d.length e (endL d t).1 := by
 have q := least_ok h.good (d.length + 1) 0 0 (flo d) h.pos (by omega) hl (lo_fits (dom_ok h.dom)) (Nat.zero_le _) (fun _ _ _ => rfl); exact ⟨q.2.2.1, q.2.2.2.1, q.2.2.2.2.1, fun e fe he => q.2.2.2.2.2.2 e fe he (fun j hj => absurd hj (Nat.not_lt_zero j))⟩
theorem end_dead (hl : liveN (t.getD 0 default) = false) : (t.getD (endL d t).2 default).leaf = false /\ ∀ c, readG d t 0 c = false := by
 obtain ⟨h1, h2⟩ := live_false hl; constructor
 ·unfold endL leastD
  rw [if_pos h1]; exact h2
 ·intro c
  unfold readG readW; rw [if_pos h1]; exact h2
theorem fits_list {F : Nat -> Int} {p : List Int} (hp : p = (List.range d.length).map F) : p.length = d.length /\ ∀ j, j < d.length -> caseL p j = F j := by
 subst hp; refine ⟨by simp, fun j hj => ?_⟩
 show ((List.range d.length).map F).getD j 0 = F j
 rw [getD_dg _ _ _ (by simpa using hj)]
 simp
theorem least_none (h : ValidG d t) (hn : leastG d t = none) {c : Nat -> Int} : readG d t 0 c = false := by
 cases hl : liveN (t.getD 0 default) with
 | true =>
  exfalso
  unfold leastG at hn; rw [if_pos (valid_iff.2 h), if_pos (end_live h hl).1] at hn; cases hn
 | false => exact (end_dead (d := d) hl).2 c
theorem least_some (h : ValidG d t) {p : List Int} (hn : leastG d t = some p) : liveN (t.getD 0 default) = true /\ p.length = d.length /\ fitsC d.length (flo d) (fhi d) (fun i => p.getD i 0) /\ readG d t 0 (fun i => p.getD i 0) = true /\
  ∀ c : List Int, c.length = d.length -> fitsC d.length (flo d) (fhi d) (fun i => c.getD i 0) -> lessL c p = true -> readG d t 0 (fun i => c.getD i 0) = false := by
 unfold leastG at hn; rw [if_pos (valid_iff.2 h)] at hn; cases hl : liveN (t.getD 0 default) with
 | false => rw [(end_dead (d := d) hl).1] at hn; cases hn
 | true =>
  obtain ⟨e1, e2, e3, e4⟩ := end_live h hl; rw [if_pos e1] at hn; obtain ⟨q1, q2⟩ := fits_list (Option.some.inj hn).symm
  have q3 : fitsC d.length (flo d) (fhi d) (fun i => p.getD i 0) := fun i hi => by
   have := e2 i hi; rw [<- q2 i hi] at this; exact this
  refine ⟨rfl, q1, q3, ?_, fun c hc fc hlt => ?_⟩
  ·rw [<- e3]
   exact indepD h.good.table h.good.reads _ 0 h.pos (Nat.le_refl _) _ _ q3 e2 (fun j _ hj => q2 j hj)
  ·cases hr : readG d t 0 (fun i => c.getD i 0) with
   | false => rfl
   | true =>
    exfalso
    refine e4 _ fc hr ?_; obtain ⟨k, hk, h1, h2⟩ := less_case c p (by omega) hlt; rw [hc] at hk; refine ⟨k, hk, ?_, fun j hj => ?_⟩
    ·rw [<- q2 k hk]; exact h1
    ·rw [<- q2 j (by omega)]; exact h2 j hj
end Go.Proofs.YtejbgoigkefnfaaGreatDoor
