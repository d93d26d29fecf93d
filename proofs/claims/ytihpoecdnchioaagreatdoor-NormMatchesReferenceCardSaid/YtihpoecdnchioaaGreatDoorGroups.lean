/- The walk of (*norm.net).groups: the circles. A bound on the number of provisions. -/
import Derived.Test.YtihpoecdnchioaaGreatDoorVisit
import Derived.Test.YtihpoecdnchioaaGreatDoorGrEnd
import Derived.Test.YtihpoecdnchioaaGreatDoorSortN
namespace Go.Proofs.YtihpoecdnchioaaGreatDoor
open Go.RowKit Tj

theorem visitN_any (w0 : World) (H nb n : Nat) (rows : List (List Nat)) (hE : TEnv w0 H nb n rows) (hn : n ≤ 1000) (hrl : ∀ k, ∀ x ∈ rows.getD k [], x < n) : ∀ N, VisitOk w0 H n rows N
  | 0 => by
    intro i P s W hN hi hpre hvn _
    exfalso
    have h1 : (s.vis ++ [i]).Nodup := by
      rw [List.nodup_append]
      exact ⟨hpre.inv.vn, by simp, fun a ha b hb e => by simp at hb; exact hpre.fresh (by rw [← hb, ← e]; exact ha)⟩
    have h2 := List.Nodup.length_le_of_subset h1 (l₂ := List.range n) (fun x hx => by
      rcases List.mem_append.1 hx with h | h
      · exact List.mem_range.2 (hvn x h)
      · simp at h; subst h; exact List.mem_range.2 hi)
    rw [List.length_append, List.length_range, List.length_singleton] at h2
    omega
  | N + 1 => visit_step w0 H nb n rows hE hn hrl N (visitN_any w0 H nb n rows hE hn hrl N)

/-- what groups reads -/
structure NetR (w : World) (nb n : Nat) (rows : List (List Nat)) : Prop where
  ps : ∃ ap cp, w.cell? ⟨nb, 1, none⟩ = some (.slice ap n cp)
  len : rows.length = n
  lt : nb < w.heap.size
  by_ : ∃ bb, bb < w.heap.size ∧ w.cell? ⟨nb, 4, none⟩ = some (.slice (some ⟨bb, 0, none⟩) n n) ∧ ∀ k, k < n → ∃ v, w.cell? ⟨bb, k, none⟩ = some v ∧ IntsIn w w.heap.size ((rows.getD k []).map fun x : Nat => (x : Int)) v

theorem st_chain (w : World) (nb : Nat) : Below w.heap.size w ((((((((((w.alloc (.cells #[.pointer (some ⟨nb, 0, none⟩)] 70)).alloc (.cells #[.slice none 0 0] 75)).alloc (.cells #[.slice none 0 0] 26)).alloc (.map #[] 0)).alloc (.map #[] 0)).alloc (.cells #[.map (some (w.heap.size + 1 + 1 + 1))] 98)).alloc (.cells #[.map (some (w.heap.size + 1 + 1 + 1 + 1))] 98)).alloc (.map #[] 0)).alloc (.cells #[.map (some (w.heap.size + 1 + 1 + 1 + 1 + 1 + 1 + 1))] 71)).alloc (.cells #[.func (.func 53) #[] #[.pointer (some ⟨w.heap.size + 1 + 1 + 1 + 1 + 1 + 1, 0, none⟩), .pointer (some ⟨w.heap.size + 1 + 1 + 1 + 1 + 1, 0, none⟩), .pointer (some ⟨w.heap.size + 1 + 1, 0, none⟩), .pointer (some ⟨w.heap.size + 1 + 1 + 1 + 1 + 1 + 1 + 1 + 1, 0, none⟩), .pointer (some ⟨w.heap.size, 0, none⟩), .pointer (some ⟨w.heap.size + 1 + 1 + 1 + 1 + 1 + 1 + 1 + 1 + 1, 0, none⟩), .pointer (some ⟨w.heap.size + 1, 0, none⟩)]] 99)) ∧ ((((((((((w.alloc (.cells #[.pointer (some ⟨nb, 0, none⟩)] 70)).alloc (.cells #[.slice none 0 0] 75)).alloc (.cells #[.slice none 0 0] 26)).alloc (.map #[] 0)).alloc (.map #[] 0)).alloc (.cells #[.map (some (w.heap.size + 1 + 1 + 1))] 98)).alloc (.cells #[.map (some (w.heap.size + 1 + 1 + 1 + 1))] 98)).alloc (.map #[] 0)).alloc (.cells #[.map (some (w.heap.size + 1 + 1 + 1 + 1 + 1 + 1 + 1))] 71)).alloc (.cells #[.func (.func 53) #[] #[.pointer (some ⟨w.heap.size + 1 + 1 + 1 + 1 + 1 + 1, 0, none⟩), .pointer (some ⟨w.heap.size + 1 + 1 + 1 + 1 + 1, 0, none⟩), .pointer (some ⟨w.heap.size + 1 + 1, 0, none⟩), .pointer (some ⟨w.heap.size + 1 + 1 + 1 + 1 + 1 + 1 + 1 + 1, 0, none⟩), .pointer (some ⟨w.heap.size, 0, none⟩), .pointer (some ⟨w.heap.size + 1 + 1 + 1 + 1 + 1 + 1 + 1 + 1 + 1, 0, none⟩), .pointer (some ⟨w.heap.size + 1, 0, none⟩)]] 99)).heap.size = w.heap.size + 10 :=
  ⟨((((((((((Below.refl _ w).alloc (Nat.le_refl _) _).alloc (by simp) _).alloc (by simp; omega) _).alloc (by simp; omega) _).alloc (by simp; omega) _).alloc (by simp; omega) _).alloc (by simp; omega) _).alloc (by simp; omega) _).alloc (by simp; omega) _).alloc (by simp; omega) _, by simp⟩
theorem st_b0 (w : World) (nb : Nat) : Blk ((((((((((w.alloc (.cells #[.pointer (some ⟨nb, 0, none⟩)] 70)).alloc (.cells #[.slice none 0 0] 75)).alloc (.cells #[.slice none 0 0] 26)).alloc (.map #[] 0)).alloc (.map #[] 0)).alloc (.cells #[.map (some (w.heap.size + 1 + 1 + 1))] 98)).alloc (.cells #[.map (some (w.heap.size + 1 + 1 + 1 + 1))] 98)).alloc (.map #[] 0)).alloc (.cells #[.map (some (w.heap.size + 1 + 1 + 1 + 1 + 1 + 1 + 1))] 71)).alloc (.cells #[.func (.func 53) #[] #[.pointer (some ⟨w.heap.size + 1 + 1 + 1 + 1 + 1 + 1, 0, none⟩), .pointer (some ⟨w.heap.size + 1 + 1 + 1 + 1 + 1, 0, none⟩), .pointer (some ⟨w.heap.size + 1 + 1, 0, none⟩), .pointer (some ⟨w.heap.size + 1 + 1 + 1 + 1 + 1 + 1 + 1 + 1, 0, none⟩), .pointer (some ⟨w.heap.size, 0, none⟩), .pointer (some ⟨w.heap.size + 1 + 1 + 1 + 1 + 1 + 1 + 1 + 1 + 1, 0, none⟩), .pointer (some ⟨w.heap.size + 1, 0, none⟩)]] 99)) (w.heap.size + 0) 70 #[.pointer (some ⟨nb, 0, none⟩)] := by
  have h := Blk.alloc (Blk.alloc (Blk.alloc (Blk.alloc (Blk.alloc (Blk.alloc (Blk.alloc (Blk.alloc (Blk.alloc (Blk.new w 70 #[.pointer (some ⟨nb, 0, none⟩)]) (.cells #[.slice none 0 0] 75)) (.cells #[.slice none 0 0] 26)) (.map #[] 0)) (.map #[] 0)) (.cells #[.map (some (w.heap.size + 1 + 1 + 1))] 98)) (.cells #[.map (some (w.heap.size + 1 + 1 + 1 + 1))] 98)) (.map #[] 0)) (.cells #[.map (some (w.heap.size + 1 + 1 + 1 + 1 + 1 + 1 + 1))] 71)) (.cells #[.func (.func 53) #[] #[.pointer (some ⟨w.heap.size + 1 + 1 + 1 + 1 + 1 + 1, 0, none⟩), .pointer (some ⟨w.heap.size + 1 + 1 + 1 + 1 + 1, 0, none⟩), .pointer (some ⟨w.heap.size + 1 + 1, 0, none⟩), .pointer (some ⟨w.heap.size + 1 + 1 + 1 + 1 + 1 + 1 + 1 + 1, 0, none⟩), .pointer (some ⟨w.heap.size, 0, none⟩), .pointer (some ⟨w.heap.size + 1 + 1 + 1 + 1 + 1 + 1 + 1 + 1 + 1, 0, none⟩), .pointer (some ⟨w.heap.size + 1, 0, none⟩)]] 99)
  exact h
theorem st_b1 (w : World) (nb : Nat) : Blk ((((((((((w.alloc (.cells #[.pointer (some ⟨nb, 0, none⟩)] 70)).alloc (.cells #[.slice none 0 0] 75)).alloc (.cells #[.slice none 0 0] 26)).alloc (.map #[] 0)).alloc (.map #[] 0)).alloc (.cells #[.map (some (w.heap.size + 1 + 1 + 1))] 98)).alloc (.cells #[.map (some (w.heap.size + 1 + 1 + 1 + 1))] 98)).alloc (.map #[] 0)).alloc (.cells #[.map (some (w.heap.size + 1 + 1 + 1 + 1 + 1 + 1 + 1))] 71)).alloc (.cells #[.func (.func 53) #[] #[.pointer (some ⟨w.heap.size + 1 + 1 + 1 + 1 + 1 + 1, 0, none⟩), .pointer (some ⟨w.heap.size + 1 + 1 + 1 + 1 + 1, 0, none⟩), .pointer (some ⟨w.heap.size + 1 + 1, 0, none⟩), .pointer (some ⟨w.heap.size + 1 + 1 + 1 + 1 + 1 + 1 + 1 + 1, 0, none⟩), .pointer (some ⟨w.heap.size, 0, none⟩), .pointer (some ⟨w.heap.size + 1 + 1 + 1 + 1 + 1 + 1 + 1 + 1 + 1, 0, none⟩), .pointer (some ⟨w.heap.size + 1, 0, none⟩)]] 99)) (w.heap.size + 1) 75 #[.slice none 0 0] := by
  have h := Blk.alloc (Blk.alloc (Blk.alloc (Blk.alloc (Blk.alloc (Blk.alloc (Blk.alloc (Blk.alloc (Blk.new (w.alloc (.cells #[.pointer (some ⟨nb, 0, none⟩)] 70)) 75 #[.slice none 0 0]) (.cells #[.slice none 0 0] 26)) (.map #[] 0)) (.map #[] 0)) (.cells #[.map (some (w.heap.size + 1 + 1 + 1))] 98)) (.cells #[.map (some (w.heap.size + 1 + 1 + 1 + 1))] 98)) (.map #[] 0)) (.cells #[.map (some (w.heap.size + 1 + 1 + 1 + 1 + 1 + 1 + 1))] 71)) (.cells #[.func (.func 53) #[] #[.pointer (some ⟨w.heap.size + 1 + 1 + 1 + 1 + 1 + 1, 0, none⟩), .pointer (some ⟨w.heap.size + 1 + 1 + 1 + 1 + 1, 0, none⟩), .pointer (some ⟨w.heap.size + 1 + 1, 0, none⟩), .pointer (some ⟨w.heap.size + 1 + 1 + 1 + 1 + 1 + 1 + 1 + 1, 0, none⟩), .pointer (some ⟨w.heap.size, 0, none⟩), .pointer (some ⟨w.heap.size + 1 + 1 + 1 + 1 + 1 + 1 + 1 + 1 + 1, 0, none⟩), .pointer (some ⟨w.heap.size + 1, 0, none⟩)]] 99)
  simp only [World.size_alloc] at h
  exact h
theorem st_b2 (w : World) (nb : Nat) : Blk ((((((((((w.alloc (.cells #[.pointer (some ⟨nb, 0, none⟩)] 70)).alloc (.cells #[.slice none 0 0] 75)).alloc (.cells #[.slice none 0 0] 26)).alloc (.map #[] 0)).alloc (.map #[] 0)).alloc (.cells #[.map (some (w.heap.size + 1 + 1 + 1))] 98)).alloc (.cells #[.map (some (w.heap.size + 1 + 1 + 1 + 1))] 98)).alloc (.map #[] 0)).alloc (.cells #[.map (some (w.heap.size + 1 + 1 + 1 + 1 + 1 + 1 + 1))] 71)).alloc (.cells #[.func (.func 53) #[] #[.pointer (some ⟨w.heap.size + 1 + 1 + 1 + 1 + 1 + 1, 0, none⟩), .pointer (some ⟨w.heap.size + 1 + 1 + 1 + 1 + 1, 0, none⟩), .pointer (some ⟨w.heap.size + 1 + 1, 0, none⟩), .pointer (some ⟨w.heap.size + 1 + 1 + 1 + 1 + 1 + 1 + 1 + 1, 0, none⟩), .pointer (some ⟨w.heap.size, 0, none⟩), .pointer (some ⟨w.heap.size + 1 + 1 + 1 + 1 + 1 + 1 + 1 + 1 + 1, 0, none⟩), .pointer (some ⟨w.heap.size + 1, 0, none⟩)]] 99)) (w.heap.size + 2) 26 #[.slice none 0 0] := by
  have h := Blk.alloc (Blk.alloc (Blk.alloc (Blk.alloc (Blk.alloc (Blk.alloc (Blk.alloc (Blk.new ((w.alloc (.cells #[.pointer (some ⟨nb, 0, none⟩)] 70)).alloc (.cells #[.slice none 0 0] 75)) 26 #[.slice none 0 0]) (.map #[] 0)) (.map #[] 0)) (.cells #[.map (some (w.heap.size + 1 + 1 + 1))] 98)) (.cells #[.map (some (w.heap.size + 1 + 1 + 1 + 1))] 98)) (.map #[] 0)) (.cells #[.map (some (w.heap.size + 1 + 1 + 1 + 1 + 1 + 1 + 1))] 71)) (.cells #[.func (.func 53) #[] #[.pointer (some ⟨w.heap.size + 1 + 1 + 1 + 1 + 1 + 1, 0, none⟩), .pointer (some ⟨w.heap.size + 1 + 1 + 1 + 1 + 1, 0, none⟩), .pointer (some ⟨w.heap.size + 1 + 1, 0, none⟩), .pointer (some ⟨w.heap.size + 1 + 1 + 1 + 1 + 1 + 1 + 1 + 1, 0, none⟩), .pointer (some ⟨w.heap.size, 0, none⟩), .pointer (some ⟨w.heap.size + 1 + 1 + 1 + 1 + 1 + 1 + 1 + 1 + 1, 0, none⟩), .pointer (some ⟨w.heap.size + 1, 0, none⟩)]] 99)
  simp only [World.size_alloc] at h
  exact h
theorem st_b5 (w : World) (nb : Nat) : Blk ((((((((((w.alloc (.cells #[.pointer (some ⟨nb, 0, none⟩)] 70)).alloc (.cells #[.slice none 0 0] 75)).alloc (.cells #[.slice none 0 0] 26)).alloc (.map #[] 0)).alloc (.map #[] 0)).alloc (.cells #[.map (some (w.heap.size + 1 + 1 + 1))] 98)).alloc (.cells #[.map (some (w.heap.size + 1 + 1 + 1 + 1))] 98)).alloc (.map #[] 0)).alloc (.cells #[.map (some (w.heap.size + 1 + 1 + 1 + 1 + 1 + 1 + 1))] 71)).alloc (.cells #[.func (.func 53) #[] #[.pointer (some ⟨w.heap.size + 1 + 1 + 1 + 1 + 1 + 1, 0, none⟩), .pointer (some ⟨w.heap.size + 1 + 1 + 1 + 1 + 1, 0, none⟩), .pointer (some ⟨w.heap.size + 1 + 1, 0, none⟩), .pointer (some ⟨w.heap.size + 1 + 1 + 1 + 1 + 1 + 1 + 1 + 1, 0, none⟩), .pointer (some ⟨w.heap.size, 0, none⟩), .pointer (some ⟨w.heap.size + 1 + 1 + 1 + 1 + 1 + 1 + 1 + 1 + 1, 0, none⟩), .pointer (some ⟨w.heap.size + 1, 0, none⟩)]] 99)) (w.heap.size + 5) 98 #[.map (some (w.heap.size + 1 + 1 + 1))] := by
  have h := Blk.alloc (Blk.alloc (Blk.alloc (Blk.alloc (Blk.new (((((w.alloc (.cells #[.pointer (some ⟨nb, 0, none⟩)] 70)).alloc (.cells #[.slice none 0 0] 75)).alloc (.cells #[.slice none 0 0] 26)).alloc (.map #[] 0)).alloc (.map #[] 0)) 98 #[.map (some (w.heap.size + 1 + 1 + 1))]) (.cells #[.map (some (w.heap.size + 1 + 1 + 1 + 1))] 98)) (.map #[] 0)) (.cells #[.map (some (w.heap.size + 1 + 1 + 1 + 1 + 1 + 1 + 1))] 71)) (.cells #[.func (.func 53) #[] #[.pointer (some ⟨w.heap.size + 1 + 1 + 1 + 1 + 1 + 1, 0, none⟩), .pointer (some ⟨w.heap.size + 1 + 1 + 1 + 1 + 1, 0, none⟩), .pointer (some ⟨w.heap.size + 1 + 1, 0, none⟩), .pointer (some ⟨w.heap.size + 1 + 1 + 1 + 1 + 1 + 1 + 1 + 1, 0, none⟩), .pointer (some ⟨w.heap.size, 0, none⟩), .pointer (some ⟨w.heap.size + 1 + 1 + 1 + 1 + 1 + 1 + 1 + 1 + 1, 0, none⟩), .pointer (some ⟨w.heap.size + 1, 0, none⟩)]] 99)
  simp only [World.size_alloc] at h
  exact h
theorem st_b6 (w : World) (nb : Nat) : Blk ((((((((((w.alloc (.cells #[.pointer (some ⟨nb, 0, none⟩)] 70)).alloc (.cells #[.slice none 0 0] 75)).alloc (.cells #[.slice none 0 0] 26)).alloc (.map #[] 0)).alloc (.map #[] 0)).alloc (.cells #[.map (some (w.heap.size + 1 + 1 + 1))] 98)).alloc (.cells #[.map (some (w.heap.size + 1 + 1 + 1 + 1))] 98)).alloc (.map #[] 0)).alloc (.cells #[.map (some (w.heap.size + 1 + 1 + 1 + 1 + 1 + 1 + 1))] 71)).alloc (.cells #[.func (.func 53) #[] #[.pointer (some ⟨w.heap.size + 1 + 1 + 1 + 1 + 1 + 1, 0, none⟩), .pointer (some ⟨w.heap.size + 1 + 1 + 1 + 1 + 1, 0, none⟩), .pointer (some ⟨w.heap.size + 1 + 1, 0, none⟩), .pointer (some ⟨w.heap.size + 1 + 1 + 1 + 1 + 1 + 1 + 1 + 1, 0, none⟩), .pointer (some ⟨w.heap.size, 0, none⟩), .pointer (some ⟨w.heap.size + 1 + 1 + 1 + 1 + 1 + 1 + 1 + 1 + 1, 0, none⟩), .pointer (some ⟨w.heap.size + 1, 0, none⟩)]] 99)) (w.heap.size + 6) 98 #[.map (some (w.heap.size + 1 + 1 + 1 + 1))] := by
  have h := Blk.alloc (Blk.alloc (Blk.alloc (Blk.new ((((((w.alloc (.cells #[.pointer (some ⟨nb, 0, none⟩)] 70)).alloc (.cells #[.slice none 0 0] 75)).alloc (.cells #[.slice none 0 0] 26)).alloc (.map #[] 0)).alloc (.map #[] 0)).alloc (.cells #[.map (some (w.heap.size + 1 + 1 + 1))] 98)) 98 #[.map (some (w.heap.size + 1 + 1 + 1 + 1))]) (.map #[] 0)) (.cells #[.map (some (w.heap.size + 1 + 1 + 1 + 1 + 1 + 1 + 1))] 71)) (.cells #[.func (.func 53) #[] #[.pointer (some ⟨w.heap.size + 1 + 1 + 1 + 1 + 1 + 1, 0, none⟩), .pointer (some ⟨w.heap.size + 1 + 1 + 1 + 1 + 1, 0, none⟩), .pointer (some ⟨w.heap.size + 1 + 1, 0, none⟩), .pointer (some ⟨w.heap.size + 1 + 1 + 1 + 1 + 1 + 1 + 1 + 1, 0, none⟩), .pointer (some ⟨w.heap.size, 0, none⟩), .pointer (some ⟨w.heap.size + 1 + 1 + 1 + 1 + 1 + 1 + 1 + 1 + 1, 0, none⟩), .pointer (some ⟨w.heap.size + 1, 0, none⟩)]] 99)
  simp only [World.size_alloc] at h
  exact h
theorem st_b8 (w : World) (nb : Nat) : Blk ((((((((((w.alloc (.cells #[.pointer (some ⟨nb, 0, none⟩)] 70)).alloc (.cells #[.slice none 0 0] 75)).alloc (.cells #[.slice none 0 0] 26)).alloc (.map #[] 0)).alloc (.map #[] 0)).alloc (.cells #[.map (some (w.heap.size + 1 + 1 + 1))] 98)).alloc (.cells #[.map (some (w.heap.size + 1 + 1 + 1 + 1))] 98)).alloc (.map #[] 0)).alloc (.cells #[.map (some (w.heap.size + 1 + 1 + 1 + 1 + 1 + 1 + 1))] 71)).alloc (.cells #[.func (.func 53) #[] #[.pointer (some ⟨w.heap.size + 1 + 1 + 1 + 1 + 1 + 1, 0, none⟩), .pointer (some ⟨w.heap.size + 1 + 1 + 1 + 1 + 1, 0, none⟩), .pointer (some ⟨w.heap.size + 1 + 1, 0, none⟩), .pointer (some ⟨w.heap.size + 1 + 1 + 1 + 1 + 1 + 1 + 1 + 1, 0, none⟩), .pointer (some ⟨w.heap.size, 0, none⟩), .pointer (some ⟨w.heap.size + 1 + 1 + 1 + 1 + 1 + 1 + 1 + 1 + 1, 0, none⟩), .pointer (some ⟨w.heap.size + 1, 0, none⟩)]] 99)) (w.heap.size + 8) 71 #[.map (some (w.heap.size + 1 + 1 + 1 + 1 + 1 + 1 + 1))] := by
  have h := Blk.alloc (Blk.new ((((((((w.alloc (.cells #[.pointer (some ⟨nb, 0, none⟩)] 70)).alloc (.cells #[.slice none 0 0] 75)).alloc (.cells #[.slice none 0 0] 26)).alloc (.map #[] 0)).alloc (.map #[] 0)).alloc (.cells #[.map (some (w.heap.size + 1 + 1 + 1))] 98)).alloc (.cells #[.map (some (w.heap.size + 1 + 1 + 1 + 1))] 98)).alloc (.map #[] 0)) 71 #[.map (some (w.heap.size + 1 + 1 + 1 + 1 + 1 + 1 + 1))]) (.cells #[.func (.func 53) #[] #[.pointer (some ⟨w.heap.size + 1 + 1 + 1 + 1 + 1 + 1, 0, none⟩), .pointer (some ⟨w.heap.size + 1 + 1 + 1 + 1 + 1, 0, none⟩), .pointer (some ⟨w.heap.size + 1 + 1, 0, none⟩), .pointer (some ⟨w.heap.size + 1 + 1 + 1 + 1 + 1 + 1 + 1 + 1, 0, none⟩), .pointer (some ⟨w.heap.size, 0, none⟩), .pointer (some ⟨w.heap.size + 1 + 1 + 1 + 1 + 1 + 1 + 1 + 1 + 1, 0, none⟩), .pointer (some ⟨w.heap.size + 1, 0, none⟩)]] 99)
  simp only [World.size_alloc] at h
  exact h
theorem st_b9 (w : World) (nb : Nat) : Blk ((((((((((w.alloc (.cells #[.pointer (some ⟨nb, 0, none⟩)] 70)).alloc (.cells #[.slice none 0 0] 75)).alloc (.cells #[.slice none 0 0] 26)).alloc (.map #[] 0)).alloc (.map #[] 0)).alloc (.cells #[.map (some (w.heap.size + 1 + 1 + 1))] 98)).alloc (.cells #[.map (some (w.heap.size + 1 + 1 + 1 + 1))] 98)).alloc (.map #[] 0)).alloc (.cells #[.map (some (w.heap.size + 1 + 1 + 1 + 1 + 1 + 1 + 1))] 71)).alloc (.cells #[.func (.func 53) #[] #[.pointer (some ⟨w.heap.size + 1 + 1 + 1 + 1 + 1 + 1, 0, none⟩), .pointer (some ⟨w.heap.size + 1 + 1 + 1 + 1 + 1, 0, none⟩), .pointer (some ⟨w.heap.size + 1 + 1, 0, none⟩), .pointer (some ⟨w.heap.size + 1 + 1 + 1 + 1 + 1 + 1 + 1 + 1, 0, none⟩), .pointer (some ⟨w.heap.size, 0, none⟩), .pointer (some ⟨w.heap.size + 1 + 1 + 1 + 1 + 1 + 1 + 1 + 1 + 1, 0, none⟩), .pointer (some ⟨w.heap.size + 1, 0, none⟩)]] 99)) (w.heap.size + 9) 99 #[.func (.func 53) #[] #[.pointer (some ⟨w.heap.size + 1 + 1 + 1 + 1 + 1 + 1, 0, none⟩), .pointer (some ⟨w.heap.size + 1 + 1 + 1 + 1 + 1, 0, none⟩), .pointer (some ⟨w.heap.size + 1 + 1, 0, none⟩), .pointer (some ⟨w.heap.size + 1 + 1 + 1 + 1 + 1 + 1 + 1 + 1, 0, none⟩), .pointer (some ⟨w.heap.size, 0, none⟩), .pointer (some ⟨w.heap.size + 1 + 1 + 1 + 1 + 1 + 1 + 1 + 1 + 1, 0, none⟩), .pointer (some ⟨w.heap.size + 1, 0, none⟩)]] := by
  have h := Blk.new (((((((((w.alloc (.cells #[.pointer (some ⟨nb, 0, none⟩)] 70)).alloc (.cells #[.slice none 0 0] 75)).alloc (.cells #[.slice none 0 0] 26)).alloc (.map #[] 0)).alloc (.map #[] 0)).alloc (.cells #[.map (some (w.heap.size + 1 + 1 + 1))] 98)).alloc (.cells #[.map (some (w.heap.size + 1 + 1 + 1 + 1))] 98)).alloc (.map #[] 0)).alloc (.cells #[.map (some (w.heap.size + 1 + 1 + 1 + 1 + 1 + 1 + 1))] 71)) 99 #[.func (.func 53) #[] #[.pointer (some ⟨w.heap.size + 1 + 1 + 1 + 1 + 1 + 1, 0, none⟩), .pointer (some ⟨w.heap.size + 1 + 1 + 1 + 1 + 1, 0, none⟩), .pointer (some ⟨w.heap.size + 1 + 1, 0, none⟩), .pointer (some ⟨w.heap.size + 1 + 1 + 1 + 1 + 1 + 1 + 1 + 1, 0, none⟩), .pointer (some ⟨w.heap.size, 0, none⟩), .pointer (some ⟨w.heap.size + 1 + 1 + 1 + 1 + 1 + 1 + 1 + 1 + 1, 0, none⟩), .pointer (some ⟨w.heap.size + 1, 0, none⟩)]]
  simp only [World.size_alloc] at h
  exact h
theorem st_m3 {κ ν : Type} (ek : κ → Value) (ev : ν → Value) (w : World) (nb : Nat) : MapIs ek ev ((((((((((w.alloc (.cells #[.pointer (some ⟨nb, 0, none⟩)] 70)).alloc (.cells #[.slice none 0 0] 75)).alloc (.cells #[.slice none 0 0] 26)).alloc (.map #[] 0)).alloc (.map #[] 0)).alloc (.cells #[.map (some (w.heap.size + 1 + 1 + 1))] 98)).alloc (.cells #[.map (some (w.heap.size + 1 + 1 + 1 + 1))] 98)).alloc (.map #[] 0)).alloc (.cells #[.map (some (w.heap.size + 1 + 1 + 1 + 1 + 1 + 1 + 1))] 71)).alloc (.cells #[.func (.func 53) #[] #[.pointer (some ⟨w.heap.size + 1 + 1 + 1 + 1 + 1 + 1, 0, none⟩), .pointer (some ⟨w.heap.size + 1 + 1 + 1 + 1 + 1, 0, none⟩), .pointer (some ⟨w.heap.size + 1 + 1, 0, none⟩), .pointer (some ⟨w.heap.size + 1 + 1 + 1 + 1 + 1 + 1 + 1 + 1, 0, none⟩), .pointer (some ⟨w.heap.size, 0, none⟩), .pointer (some ⟨w.heap.size + 1 + 1 + 1 + 1 + 1 + 1 + 1 + 1 + 1, 0, none⟩), .pointer (some ⟨w.heap.size + 1, 0, none⟩)]] 99)) (w.heap.size + 3) [] := by
  have h := MapIs.alloc (MapIs.alloc (MapIs.alloc (MapIs.alloc (MapIs.alloc (MapIs.alloc (MapIs.made (ek := ek) (ev := ev) (((w.alloc (.cells #[.pointer (some ⟨nb, 0, none⟩)] 70)).alloc (.cells #[.slice none 0 0] 75)).alloc (.cells #[.slice none 0 0] 26))) (.map #[] 0)) (.cells #[.map (some (w.heap.size + 1 + 1 + 1))] 98)) (.cells #[.map (some (w.heap.size + 1 + 1 + 1 + 1))] 98)) (.map #[] 0)) (.cells #[.map (some (w.heap.size + 1 + 1 + 1 + 1 + 1 + 1 + 1))] 71)) (.cells #[.func (.func 53) #[] #[.pointer (some ⟨w.heap.size + 1 + 1 + 1 + 1 + 1 + 1, 0, none⟩), .pointer (some ⟨w.heap.size + 1 + 1 + 1 + 1 + 1, 0, none⟩), .pointer (some ⟨w.heap.size + 1 + 1, 0, none⟩), .pointer (some ⟨w.heap.size + 1 + 1 + 1 + 1 + 1 + 1 + 1 + 1, 0, none⟩), .pointer (some ⟨w.heap.size, 0, none⟩), .pointer (some ⟨w.heap.size + 1 + 1 + 1 + 1 + 1 + 1 + 1 + 1 + 1, 0, none⟩), .pointer (some ⟨w.heap.size + 1, 0, none⟩)]] 99)
  simp only [World.size_alloc] at h
  exact h
theorem st_m4 {κ ν : Type} (ek : κ → Value) (ev : ν → Value) (w : World) (nb : Nat) : MapIs ek ev ((((((((((w.alloc (.cells #[.pointer (some ⟨nb, 0, none⟩)] 70)).alloc (.cells #[.slice none 0 0] 75)).alloc (.cells #[.slice none 0 0] 26)).alloc (.map #[] 0)).alloc (.map #[] 0)).alloc (.cells #[.map (some (w.heap.size + 1 + 1 + 1))] 98)).alloc (.cells #[.map (some (w.heap.size + 1 + 1 + 1 + 1))] 98)).alloc (.map #[] 0)).alloc (.cells #[.map (some (w.heap.size + 1 + 1 + 1 + 1 + 1 + 1 + 1))] 71)).alloc (.cells #[.func (.func 53) #[] #[.pointer (some ⟨w.heap.size + 1 + 1 + 1 + 1 + 1 + 1, 0, none⟩), .pointer (some ⟨w.heap.size + 1 + 1 + 1 + 1 + 1, 0, none⟩), .pointer (some ⟨w.heap.size + 1 + 1, 0, none⟩), .pointer (some ⟨w.heap.size + 1 + 1 + 1 + 1 + 1 + 1 + 1 + 1, 0, none⟩), .pointer (some ⟨w.heap.size, 0, none⟩), .pointer (some ⟨w.heap.size + 1 + 1 + 1 + 1 + 1 + 1 + 1 + 1 + 1, 0, none⟩), .pointer (some ⟨w.heap.size + 1, 0, none⟩)]] 99)) (w.heap.size + 4) [] := by
  have h := MapIs.alloc (MapIs.alloc (MapIs.alloc (MapIs.alloc (MapIs.alloc (MapIs.made (ek := ek) (ev := ev) ((((w.alloc (.cells #[.pointer (some ⟨nb, 0, none⟩)] 70)).alloc (.cells #[.slice none 0 0] 75)).alloc (.cells #[.slice none 0 0] 26)).alloc (.map #[] 0))) (.cells #[.map (some (w.heap.size + 1 + 1 + 1))] 98)) (.cells #[.map (some (w.heap.size + 1 + 1 + 1 + 1))] 98)) (.map #[] 0)) (.cells #[.map (some (w.heap.size + 1 + 1 + 1 + 1 + 1 + 1 + 1))] 71)) (.cells #[.func (.func 53) #[] #[.pointer (some ⟨w.heap.size + 1 + 1 + 1 + 1 + 1 + 1, 0, none⟩), .pointer (some ⟨w.heap.size + 1 + 1 + 1 + 1 + 1, 0, none⟩), .pointer (some ⟨w.heap.size + 1 + 1, 0, none⟩), .pointer (some ⟨w.heap.size + 1 + 1 + 1 + 1 + 1 + 1 + 1 + 1, 0, none⟩), .pointer (some ⟨w.heap.size, 0, none⟩), .pointer (some ⟨w.heap.size + 1 + 1 + 1 + 1 + 1 + 1 + 1 + 1 + 1, 0, none⟩), .pointer (some ⟨w.heap.size + 1, 0, none⟩)]] 99)
  simp only [World.size_alloc] at h
  exact h
theorem st_m7 {κ ν : Type} (ek : κ → Value) (ev : ν → Value) (w : World) (nb : Nat) : MapIs ek ev ((((((((((w.alloc (.cells #[.pointer (some ⟨nb, 0, none⟩)] 70)).alloc (.cells #[.slice none 0 0] 75)).alloc (.cells #[.slice none 0 0] 26)).alloc (.map #[] 0)).alloc (.map #[] 0)).alloc (.cells #[.map (some (w.heap.size + 1 + 1 + 1))] 98)).alloc (.cells #[.map (some (w.heap.size + 1 + 1 + 1 + 1))] 98)).alloc (.map #[] 0)).alloc (.cells #[.map (some (w.heap.size + 1 + 1 + 1 + 1 + 1 + 1 + 1))] 71)).alloc (.cells #[.func (.func 53) #[] #[.pointer (some ⟨w.heap.size + 1 + 1 + 1 + 1 + 1 + 1, 0, none⟩), .pointer (some ⟨w.heap.size + 1 + 1 + 1 + 1 + 1, 0, none⟩), .pointer (some ⟨w.heap.size + 1 + 1, 0, none⟩), .pointer (some ⟨w.heap.size + 1 + 1 + 1 + 1 + 1 + 1 + 1 + 1, 0, none⟩), .pointer (some ⟨w.heap.size, 0, none⟩), .pointer (some ⟨w.heap.size + 1 + 1 + 1 + 1 + 1 + 1 + 1 + 1 + 1, 0, none⟩), .pointer (some ⟨w.heap.size + 1, 0, none⟩)]] 99)) (w.heap.size + 7) [] := by
  have h := MapIs.alloc (MapIs.alloc (MapIs.made (ek := ek) (ev := ev) (((((((w.alloc (.cells #[.pointer (some ⟨nb, 0, none⟩)] 70)).alloc (.cells #[.slice none 0 0] 75)).alloc (.cells #[.slice none 0 0] 26)).alloc (.map #[] 0)).alloc (.map #[] 0)).alloc (.cells #[.map (some (w.heap.size + 1 + 1 + 1))] 98)).alloc (.cells #[.map (some (w.heap.size + 1 + 1 + 1 + 1))] 98))) (.cells #[.map (some (w.heap.size + 1 + 1 + 1 + 1 + 1 + 1 + 1))] 71)) (.cells #[.func (.func 53) #[] #[.pointer (some ⟨w.heap.size + 1 + 1 + 1 + 1 + 1 + 1, 0, none⟩), .pointer (some ⟨w.heap.size + 1 + 1 + 1 + 1 + 1, 0, none⟩), .pointer (some ⟨w.heap.size + 1 + 1, 0, none⟩), .pointer (some ⟨w.heap.size + 1 + 1 + 1 + 1 + 1 + 1 + 1 + 1, 0, none⟩), .pointer (some ⟨w.heap.size, 0, none⟩), .pointer (some ⟨w.heap.size + 1 + 1 + 1 + 1 + 1 + 1 + 1 + 1 + 1, 0, none⟩), .pointer (some ⟨w.heap.size + 1, 0, none⟩)]] 99)
  simp only [World.size_alloc] at h
  exact h

theorem start_tst (w : World) (G : Nat → List Nat) (nb : Nat) : TSt ((((((((((w.alloc (.cells #[.pointer (some ⟨nb, 0, none⟩)] 70)).alloc (.cells #[.slice none 0 0] 75)).alloc (.cells #[.slice none 0 0] 26)).alloc (.map #[] 0)).alloc (.map #[] 0)).alloc (.cells #[.map (some (w.heap.size + 1 + 1 + 1))] 98)).alloc (.cells #[.map (some (w.heap.size + 1 + 1 + 1 + 1))] 98)).alloc (.map #[] 0)).alloc (.cells #[.map (some (w.heap.size + 1 + 1 + 1 + 1 + 1 + 1 + 1))] 71)).alloc (.cells #[.func (.func 53) #[] #[.pointer (some ⟨w.heap.size + 1 + 1 + 1 + 1 + 1 + 1, 0, none⟩), .pointer (some ⟨w.heap.size + 1 + 1 + 1 + 1 + 1, 0, none⟩), .pointer (some ⟨w.heap.size + 1 + 1, 0, none⟩), .pointer (some ⟨w.heap.size + 1 + 1 + 1 + 1 + 1 + 1 + 1 + 1, 0, none⟩), .pointer (some ⟨w.heap.size, 0, none⟩), .pointer (some ⟨w.heap.size + 1 + 1 + 1 + 1 + 1 + 1 + 1 + 1 + 1, 0, none⟩), .pointer (some ⟨w.heap.size + 1, 0, none⟩)]] 99)) w.heap.size G TS.start ((((((((((w.alloc (.cells #[.pointer (some ⟨nb, 0, none⟩)] 70)).alloc (.cells #[.slice none 0 0] 75)).alloc (.cells #[.slice none 0 0] 26)).alloc (.map #[] 0)).alloc (.map #[] 0)).alloc (.cells #[.map (some (w.heap.size + 1 + 1 + 1))] 98)).alloc (.cells #[.map (some (w.heap.size + 1 + 1 + 1 + 1))] 98)).alloc (.map #[] 0)).alloc (.cells #[.map (some (w.heap.size + 1 + 1 + 1 + 1 + 1 + 1 + 1))] 71)).alloc (.cells #[.func (.func 53) #[] #[.pointer (some ⟨w.heap.size + 1 + 1 + 1 + 1 + 1 + 1, 0, none⟩), .pointer (some ⟨w.heap.size + 1 + 1 + 1 + 1 + 1, 0, none⟩), .pointer (some ⟨w.heap.size + 1 + 1, 0, none⟩), .pointer (some ⟨w.heap.size + 1 + 1 + 1 + 1 + 1 + 1 + 1 + 1, 0, none⟩), .pointer (some ⟨w.heap.size, 0, none⟩), .pointer (some ⟨w.heap.size + 1 + 1 + 1 + 1 + 1 + 1 + 1 + 1 + 1, 0, none⟩), .pointer (some ⟨w.heap.size + 1, 0, none⟩)]] 99)) := by
  have hz := (st_chain w nb).2
  refine ⟨Fr.start (by omega), st_m4 _ _ w nb, ⟨[], st_m3 _ _ w nb, fun x hx => by cases hx⟩, ⟨[], st_m7 _ _ w nb, fun x => by simp [TS.start]⟩, .slice none 0 0, .slice none 0 0, [], ⟨st_b2 w nb, World.ownsRow_nil _ _ _ _⟩, ⟨st_b1 w nb, World.ownsRow_nil _ _ _ _, rfl, fun k hk => by cases hk⟩, fun g hg => by cases hg⟩
theorem start_env (w : World) (nb n : Nat) (rows : List (List Nat)) (hN : NetR w nb n rows) : TEnv ((((((((((w.alloc (.cells #[.pointer (some ⟨nb, 0, none⟩)] 70)).alloc (.cells #[.slice none 0 0] 75)).alloc (.cells #[.slice none 0 0] 26)).alloc (.map #[] 0)).alloc (.map #[] 0)).alloc (.cells #[.map (some (w.heap.size + 1 + 1 + 1))] 98)).alloc (.cells #[.map (some (w.heap.size + 1 + 1 + 1 + 1))] 98)).alloc (.map #[] 0)).alloc (.cells #[.map (some (w.heap.size + 1 + 1 + 1 + 1 + 1 + 1 + 1))] 71)).alloc (.cells #[.func (.func 53) #[] #[.pointer (some ⟨w.heap.size + 1 + 1 + 1 + 1 + 1 + 1, 0, none⟩), .pointer (some ⟨w.heap.size + 1 + 1 + 1 + 1 + 1, 0, none⟩), .pointer (some ⟨w.heap.size + 1 + 1, 0, none⟩), .pointer (some ⟨w.heap.size + 1 + 1 + 1 + 1 + 1 + 1 + 1 + 1, 0, none⟩), .pointer (some ⟨w.heap.size, 0, none⟩), .pointer (some ⟨w.heap.size + 1 + 1 + 1 + 1 + 1 + 1 + 1 + 1 + 1, 0, none⟩), .pointer (some ⟨w.heap.size + 1, 0, none⟩)]] 99)) w.heap.size nb n rows := by
  obtain ⟨hb, hz⟩ := st_chain w nb
  obtain ⟨bb, h1, h2, h3⟩ := hN.by_
  refine ⟨by omega, hN.len, st_b5 w nb, st_b6 w nb, st_b8 w nb, st_b0 w nb, st_b9 w nb, bb, h1, hN.lt, (hb.cell (p := ⟨nb, 4, none⟩) hN.lt).trans h2, fun k hk => ?_⟩
  obtain ⟨v, h4, h5⟩ := h3 k hk
  exact ⟨v, (hb.cell (p := ⟨bb, k, none⟩) h1).trans h4, h5.below hb⟩

theorem own_intsI {W : World} {base : Nat} {v : Value} {l : List Int} (h : W.ownsRow base 3 1 v l.length (l.map iV)) {B : Nat} (hB : W.heap.size ≤ B) : IntsIn W B l v := by
  rcases h.2 with ⟨rfl, h0⟩ | ⟨g, cap, cur, rfl, _, hg, h1, h2, h3, h4⟩
  · have : l = [] := List.length_eq_zero_iff.1 h0
    subst this
    exact ⟨none, 0, rfl, Nat.zero_le _, Nat.zero_le _, fun e => absurd rfl e⟩
  · refine ⟨some ⟨g, 0, none⟩, cap, rfl, h1, h2, fun _ => ⟨g, 0, rfl, ?_, fun i hi => ?_⟩⟩
    · exact Nat.lt_of_lt_of_le (Array.getElem?_eq_some_iff.1 hg).1 hB
    · have h5 : (cur.toList.take (l.length * 1))[i]? = (l.map iV)[i]? := by rw [h4]
      rw [List.getElem?_take_of_lt (by omega), List.getElem?_map, List.getElem?_eq_getElem hi] at h5
      show W.cell? ⟨g, 0 + i * 1, none⟩ = some (.int .i64 _)
      simp only [World.cell?, hg]
      simpa [iV] using h5

/-- slices.SortFunc at what was found -/
theorem sortEnd {W : World} {base : Nat} {outs : List (List Int)} {u : Value} {vals : List Value} (hown : W.ownsRow base 26 1 u vals.length vals) (hlen : vals.length = outs.length)
    (hrows : ∀ k, k < outs.length → W.ownsRow base 3 1 (vals.getD k undef) (outs.getD k []).length ((outs.getD k []).map iV) ∧ outs.getD k [] ≠ []) (hbd : ∀ o ∈ outs, ∀ x ∈ o, 0 ≤ x ∧ x ≤ 1000) (hsz : outs.length ≤ 100000) :
    Calls Tryz.prog 57 #[u, .func (.func 58) #[] #[]] W fun e w' => e = .returned (.tuple #[]) ∧
      ∃ out : List (List Int), out.Perm outs ∧ out.Pairwise (fun a b => hd a ≤ hd b) ∧ IntssIn w' w'.heap.size out u ∧ W.grownBy w' u.ownBlock := by
  obtain ⟨els, e1, e2⟩ := els_of vals outs hlen hrows hbd
  have hel : els.length = outs.length := by rw [← e2, List.length_map]
  by_cases hne : els = []
  · subst hne
    cases e1; cases e2
    rcases hown.2 with ⟨rfl, _⟩ | ⟨g, cap, cur, rfl, _, _, h1, h2, _⟩
    · refine (sortFunc_none none 0 _ W).mono ?_
      rintro e w' ⟨rfl, rfl⟩
      exact ⟨rfl, [], List.Perm.refl _, List.Pairwise.nil, ⟨none, 0, rfl, Nat.le_refl _, Nat.zero_le _, fun h => absurd rfl h⟩, ⟨rfl, rfl, rfl, Nat.le_refl _, fun _ _ _ => rfl⟩⟩
    · refine (sortFunc_none (some ⟨g, 0, none⟩) cap _ W).mono ?_
      rintro e w' ⟨rfl, rfl⟩
      exact ⟨rfl, [], List.Perm.refl _, List.Pairwise.nil, ⟨some ⟨g, 0, none⟩, cap, rfl, Nat.zero_le _, h2, fun h => absurd rfl h⟩, ⟨rfl, rfl, rfl, Nat.le_refl _, fun _ _ _ => rfl⟩⟩
  · have hpos := List.length_pos_iff.2 hne
    rw [hlen, ← hel, ← e1] at hown
    rcases hown.2 with ⟨rfl, h0⟩ | ⟨g, cap, cur, rfl, _, _, h1, h2, _⟩
    · omega
    · refine (sortG_any els g cap hne (by omega) hown).mono ?_
      rintro e w' ⟨rfl, els', hp, hs, how, hg⟩
      refine ⟨rfl, els'.map El.l, by rw [← e2]; exact hp.map _, by rw [List.pairwise_map]; exact hs, ?_, hg⟩
      have hl' : els'.length = els.length := hp.length_eq
      rcases how.2 with ⟨h0, _⟩ | ⟨g', cap', cur', h0, _, hg', k1, k2, k3, k4⟩
      · cases h0
      cases h0
      refine ⟨some ⟨g, 0, none⟩, cap, by rw [List.length_map, hl'], by rw [List.length_map, hl']; exact h1, h2, fun _ => ⟨g, 0, rfl, (Array.getElem?_eq_some_iff.1 hg').1, fun i hi => ?_⟩⟩
      rw [List.length_map] at hi
      have h5 : (cur'.toList.take (els.length * 1))[i]? = (els'.map El.v)[i]? := by rw [k4]
      rw [List.getElem?_take_of_lt (by omega), List.getElem?_map, List.getElem?_eq_getElem hi] at h5
      refine ⟨els'[i].v, ?_, ?_⟩
      · show w'.cell? ⟨g, 0 + i * 1, none⟩ = some _
        simp only [World.cell?, hg']
        simpa using h5
      · rw [List.getElem_map]
        refine own_intsI ((els'[i]).own.kept hg ?_) (Nat.le_refl _)
        exact own_types (els'[i]).own hown (by decide)

section
attribute [local go_sem] run_store_fn
set_option maxRecDepth 100000 in
set_option maxHeartbeats 8000000 in
theorem groups_any (n nb : Nat) (rows : List (List Nat)) (w : World) (hn : n ≤ 1000) (hrl : ∀ k, ∀ x ∈ rows.getD k [], x < n) (hN : NetR w nb n rows) :
    Calls Tryz.prog 33 #[.pointer (some ⟨nb, 0, none⟩)] w fun e w' => ∃ v, e = .returned v ∧ IntssIn w' w'.heap.size ((circS (eB (edg rows)) n).map fun l => l.map fun x : Nat => (x : Int)) v ∧ Below w.heap.size w w' := by
  have hmm := @run_makeMap Tryz.prog
  go_enter Tryz.func33, Tryz.ntmps33
  go_upto_region 7 with (fail)
  obtain ⟨w0, hw0⟩ : ∃ w0, ((((((((((w.alloc (.cells #[.pointer (some ⟨nb, 0, none⟩)] 70)).alloc (.cells #[.slice none 0 0] 75)).alloc (.cells #[.slice none 0 0] 26)).alloc (.map #[] 0)).alloc (.map #[] 0)).alloc (.cells #[.map (some (w.heap.size + 1 + 1 + 1))] 98)).alloc (.cells #[.map (some (w.heap.size + 1 + 1 + 1 + 1))] 98)).alloc (.map #[] 0)).alloc (.cells #[.map (some (w.heap.size + 1 + 1 + 1 + 1 + 1 + 1 + 1))] 71)).alloc (.cells #[.func (.func 53) #[] #[.pointer (some ⟨w.heap.size + 1 + 1 + 1 + 1 + 1 + 1, 0, none⟩), .pointer (some ⟨w.heap.size + 1 + 1 + 1 + 1 + 1, 0, none⟩), .pointer (some ⟨w.heap.size + 1 + 1, 0, none⟩), .pointer (some ⟨w.heap.size + 1 + 1 + 1 + 1 + 1 + 1 + 1 + 1, 0, none⟩), .pointer (some ⟨w.heap.size, 0, none⟩), .pointer (some ⟨w.heap.size + 1 + 1 + 1 + 1 + 1 + 1 + 1 + 1 + 1, 0, none⟩), .pointer (some ⟨w.heap.size + 1, 0, none⟩)]] 99)) = w0 := ⟨_, rfl⟩
  have hE := start_env w nb n rows hN
  have hT := start_tst w (edg rows) nb
  obtain ⟨hb0, hz0⟩ := st_chain w nb
  rw [hw0] at hE hT hb0 hz0 ⊢
  simp only [Nat.add_assoc, Nat.reduceAdd]
  have HV := Lib.hid (visitN_any w0 w.heap.size nb n rows hE hn hrl n)
  obtain ⟨ap, cp, hps⟩ := hN.ps
  have hnl := hN.lt
  have HE := Lib.hid hE
  have HB0 := Lib.hid hb0
  have HPS := Lib.hid hps
  have HRL := Lib.hid hrl
  have t0 : w0.cell? ⟨w.heap.size, 0, none⟩ = some (.pointer (some ⟨nb, 0, none⟩)) := hE.net.cell 0
  have t1 := (hb0.cell (p := ⟨nb, 1, none⟩) hnl).trans hps
  have HT := Lib.hid hT
  clear hE hb0 hps hrl hT hmm hw0
  go_wp2
  go_loopw [22] (fun iv wr => ∃ (k : Nat) (s : TS), k ≤ n ∧ iv = .int .i64 k ∧ Hid (Inv (edg rows) (fun _ => False) s) ∧ Hid (∀ x ∈ s.vis, x < n) ∧ Hid (∀ x, x < k → x ∈ s.vis) ∧ Hid (TSt w0 w.heap.size (edg rows) s wr)) (fun iv _ => n - (intOf iv).toNat)
  case atStart => exact ⟨0, TS.start, Nat.zero_le _, rfl, start_inv _, fun x hx => (by cases hx), fun x hx => (by omega), HT⟩
  case round =>
    obtain ⟨k, s, hk, rfl, hinv, hv, hall, hst⟩ := hrel
    obtain ⟨q1, q2, q3, q4, q5⟩ := boxes HE.out hst.out.fr
    by_cases hlt : k < n
    · have hlk := run_look_ok MapInt.key Tryz.underlying98 zero_int hst.out.num (k : Int)
      rw [numF_lookup, Nat.zero_add] at hlk
      by_cases hkv : k ∈ s.vis
      · rw [if_pos hkv] at hlk
        have HA := Lib.hid (show ∀ x, x < k + 1 → x ∈ s.vis from fun x hx => by
          by_cases e : x = k
          · rw [e]; exact hkv
          · exact hall.out x (by omega))
        have HI := hinv
        have HV2 := hv
        have HS := hst
        clear hkv hall hinv hv hst
        go_wp2
        go_roundw
        case rel => exact ⟨k + 1, s, by omega, by go_num, HI, HV2, HA, HS⟩
        case measure => simp [intOf]; omega
      · rw [if_neg hkv] at hlk
        have HC := Lib.hid (HV.out k (fun _ => False) s _ (by omega) hlt (hinv.out.outer hkv) hv.out hst.out)
        have HA := hall
        clear hkv hall hinv hv hst
        go_wp2_with (go_at_call 53; refine HC.out.mono ?_; rintro e w4 ⟨rfl, s1, hpost, hv1, hst1⟩; have HP1 := Lib.hid hpost; have HV1 := Lib.hid hv1; have HS1 := Lib.hid hst1; clear hpost hv1 hst1)
        have HA1 : Hid (∀ x, x < k + 1 → x ∈ s1.vis) := fun x hx => by
          obtain ⟨l, hl⟩ := HP1.out.vis
          rw [hl]
          by_cases e : x = k
          · rw [e]; simp
          · exact List.mem_append_left _ (HA.out x (by omega))
        go_roundw
        case rel => exact ⟨k + 1, s1, by omega, by go_num, HP1.out.inv, HV1, HA1, HS1⟩
        case measure => simp [intOf]; omega
    · have hkn : k = n := by omega
      subst hkn
      obtain ⟨v, u, vals, _, hout, _⟩ := hst.out.mem
      have hvis : ∀ x, x ∈ s.vis ↔ x < k := fun x => ⟨hv.out x, hall.out x⟩
      have hcb : ∀ c ∈ s.comps, ∀ x ∈ c, x < k := fun c hc x hx => (hvis x).1 ((hinv.out.part x).2 (.inr (List.mem_flatten.2 ⟨c, hc, hx⟩)))
      have hvl : s.vis.length ≤ k := by
        have h := List.Nodup.length_le_of_subset hinv.out.vn (l₂ := List.range k) (fun x hx => List.mem_range.2 (hv.out x hx))
        rwa [List.length_range] at h
      have hcl : (outL (edg rows) s.comps).length ≤ k := by
        have h1 := outL_le (edg rows) s.comps
        have h2 := comps_len s.comps hinv.out.ne
        have h3 := List.Nodup.length_le_of_subset hinv.out.once (l₂ := List.range k) (fun x hx => by obtain ⟨c, hc, hxc⟩ := List.mem_flatten.1 hx; exact List.mem_range.2 (hcb c hc x hxc))
        rw [List.length_range] at h3
        omega
      have HSE := Lib.hid (sortEnd hout.own hout.len hout.rows (outL_bd fun c hc x hx => by have := hcb c hc x hx; omega) (by omega))
      have hcu : wr.cell? ⟨w.heap.size + 1, 0, none⟩ = some u := hout.blk.cell 0
      have HOW := Lib.hid hout.own
      have HVI := Lib.hid hvis
      have HI := hinv
      have HF := Lib.hid hst.out.fr
      have hub : ∀ b, u.ownBlock = some b → w.heap.size + 10 ≤ b := fun b hb => by
        rcases hout.own.2 with ⟨rfl, _⟩ | ⟨g, cap, cur, rfl, hge, _⟩
        · cases hb
        · cases hb; exact hge
      have HUB := Lib.hid hub
      clear hout hvis hcb hvl hcl hinv hst hub hall hv hk
      go_wp2_with (go_at_call 57; refine HSE.out.mono ?_; rintro e w4 ⟨rfl, out, hp, hs, hin, hg⟩; have HG := Lib.hid hg; have HP := Lib.hid hp; have HS := Lib.hid hs; have HIN := Lib.hid hin; have hcu4 := (show w4.cell? ⟨w.heap.size + 1, 0, none⟩ = some u by unfold World.cell? at hcu ⊢; rw [hg.block (w.heap.size + 1) (by have := HF.out.size; omega) (fun e => by have := HUB.out _ e.symm; omega)]; exact hcu); clear hg hp hs hin)
      go_ret
      refine ⟨u, rfl, ?_, ?_⟩
      · rw [← gr_end (G := edg rows) HRL.out HI.out HVI.out out HP.out HS.out]
        exact HIN.out
      · have F := HF.out
        have G := HG.out
        have B0 := HB0.out
        refine ⟨G.os.trans (F.os.trans B0.os), G.tape.trans (F.tape.trans B0.tape), G.output.trans (F.output.trans B0.output), ?_, fun b hb => ?_⟩
        · have := B0.size; have := F.size0; have := G.size; omega
        · exact (G.block b (by have := F.size; omega) (fun e => by have := HUB.out _ e.symm; omega)).trans ((F.fr b (by omega) (by omega) (by omega) (by omega) (by omega) (by omega)).trans (B0.block b hb))
end

end Go.Proofs.YtihpoecdnchioaaGreatDoor
