/- The walk of pandectref07.count and Small: the number of nodes of a formula, or more than most. No conditions beyond bounds on most. -/
import Derived.Test.YtihpoecdnchioaaGreatDoorMem
namespace Go.Proofs.YtihpoecdnchioaaGreatDoor
open Go.RowKit

mutual
theorem countF_bd : ∀ (f : Fo) (most : Int), 0 ≤ most → 1 ≤ countF f most ∧ countF f most ≤ most + 1
  | .mk _ _ _ _ ks, most, h => by simpa [countF] using countL_bd ks most 1 (by omega) (by omega) (by omega)
theorem countL_bd : ∀ (ks : List Fo) (most n : Int), 0 ≤ most → 1 ≤ n → n ≤ most + 1 → 1 ≤ countL ks most n ∧ countL ks most n ≤ most + 1
  | [], most, n, _, h1, h2 => ⟨h1, h2⟩
  | k :: ks, most, n, h0, h1, h2 => by
    unfold countL
    split
    · have := countF_bd k (most - n) (by omega)
      exact countL_bd ks most _ h0 (by omega) (by omega)
    · exact ⟨h1, h2⟩
end

theorem countL_drop (ks : List Fo) (k : Nat) (h : k < ks.length) (most n : Int) :
    countL (ks.drop k) most n = if n ≤ most then countL (ks.drop (k + 1)) most (n + countF ks[k] (most - n)) else n := by
  rw [List.drop_eq_getElem_cons h, countL]

set_option maxHeartbeats 400000 in
theorem count_any (N : Nat) : ∀ (f : Fo) (most : Int) (v : Value) (w : World) (B : Nat), f.size ≤ N → 0 ≤ most → most ≤ 1000000 → B ≤ w.heap.size → f.In w B v →
    Calls Tryz.prog 42 #[v, .int .i64 most] w fun e w' => e = .returned (.int .i64 (countF f most)) ∧ Below w.heap.size w w' := by
  induction N with
  | zero => intro f _ _ _ _ h; have := f.size_pos; omega
  | succ N ih =>
  intro most' most v w B hN hm0 hm1 hB hf
  obtain ⟨op, nm, c, n, ks⟩ := most'
  obtain ⟨ao, cap, rfl, h1, h2, h3, h4, h5, h6, h7⟩ := hf
  have IH : Hid (∀ (f : Fo) (most : Int) (v : Value) (w : World) (B : Nat), f.size ≤ N → 0 ≤ most → most ≤ 1000000 → B ≤ w.heap.size → f.In w B v →
    Calls Tryz.prog 42 #[v, .int .i64 most] w fun e w' => e = .returned (.int .i64 (countF f most)) ∧ Below w.heap.size w w') := ih
  clear ih h1 h2 h3 h4
  unfold maxLen at h6
  have HC : Hid (countL ks most 1 = countF (.mk op nm c n ks) most) := by rw [countF]; rfl
  generalize countF (.mk op nm c n ks) most = R at *
  have H7 := Lib.hid h7
  clear h7
  go_enter Tryz.func42, Tryz.ntmps42
  go_wp2
  go_loopw [5, 6] (fun n i wr => ∃ (k : Nat) (m : Int), k ≤ ks.length ∧ i = .int .i64 k ∧ n = .int .i64 m ∧ 1 ≤ m ∧ m ≤ most + 1 ∧ Below w.heap.size w wr ∧
     wr.cell? ⟨w.heap.size, 4, none⟩ = some (.slice ao ks.length cap) ∧ w.heap.size < wr.heap.size ∧ Hid (countL (ks.drop k) most m = R)) (fun n i _ => ks.length - (intOf i).toNat)
  case atStart =>
    exact ⟨0, 1, by omega, rfl, rfl, by omega, by omega, (Below.refl _ _).alloc (Nat.le_refl _) _, by go_simp, by simp, by simpa [Hid] using HC⟩
  case round =>
    obtain ⟨k, m, hk, rfl, rfl, hm1, hm2, hb, hc4, hsz, hR⟩ := hrel
    by_cases hlt : k < ks.length
    · by_cases hmm : m ≤ most
      · obtain ⟨b, off, rfl, hbB, hL⟩ := H7.out (by intro h; simp [h] at hlt)
        obtain ⟨ka, kc, g0, g1, g2, g3, g4, gk⟩ := Fo.InL.get ks off k hlt (Fo.InL.below (hb.mono hB) hbB ks off hL)
        have hbd := countF_bd ks[k] (most - m) (by omega)
        have hsk := Fo.size_get ks k hlt
        rw [Fo.size] at hN
        have GK := Lib.hid gk
        clear gk hL H7 HC
        rw [Hid, countL_drop ks k hlt, if_pos hmm] at hR
        have HR := Lib.hid hR
        clear hR
        go_wp2_with (go_at_call 42; refine (IH.out _ _ _ _ B (by omega) (by omega) (by omega) (by omega) GK.out).mono ?_; rintro e w' ⟨rfl, hb'⟩)
        go_roundw
        case rel =>
          exact ⟨k + 1, m + countF ks[k] (most - m), by omega, by go_num, rfl, by omega, by omega, hb.trans (hb'.mono (by omega)), (hb'.cell (by simp; omega)).trans hc4, by have := hb'.size; omega, HR⟩
        case measure => simp [intOf]; omega
      · rw [Hid, countL_drop ks k hlt, if_neg hmm] at hR
        have HR := Lib.hid hR
        have hd : decide (m ≤ most) = false := by simpa using hmm
        clear hR H7 HC hmm
        go_wp2
        go_ret
        exact ⟨ret_int HR.out, hb⟩
    · have hR' : m = R := by
        have : k = ks.length := by omega
        subst this
        simpa [Hid, countL] using hR
      have HR := Lib.hid hR'
      clear hR' hR H7 HC
      go_wp2
      go_ret
      exact ⟨ret_int HR.out, hb⟩

def smallF (f : Fo) (most : Int) : Bool := decide (countF f most ≤ most)

set_option maxHeartbeats 400000 in
theorem small_any (f : Fo) (most : Int) (v : Value) (w : World) (B : Nat) (hm0 : 0 ≤ most) (hm1 : most ≤ 1000000) (hB : B ≤ w.heap.size) (hf : f.In w B v) :
    Calls Tryz.prog 24 #[v, .int .i64 most] w fun e w' => e = .returned (.bool (smallF f most)) ∧ Below w.heap.size w w' := by
  obtain ⟨ao, cap, rfl⟩ := hf.shape
  have HF := Lib.hid hf
  clear hf
  go_enter Tryz.func24, Tryz.ntmps24
  go_wp2_with (go_at_call 42; refine (count_any f.size f most _ _ B (Nat.le_refl _) hm0 hm1 ?_ ?_).mono ?_; (simp; omega); exact Fo.In.below ((Below.refl _ _).alloc (by omega) _) _ _ HF.out; rintro e w' ⟨rfl, hb'⟩)
  go_ret
  exact ⟨rfl, ((Below.refl _ _).alloc (by omega) _).trans (hb'.mono (by simp))⟩

end Go.Proofs.YtihpoecdnchioaaGreatDoor
