/- The plain law of DiagramMeans: what Build answers at a small formula means the formula. No program. -/
import Derived.Test.YtejbgoigkefnfaaGreatDoorMemA
import Derived.Test.YtejbgoigkefnfaaGreatDoorDgHead
set_option maxRecDepth 100000
set_option maxHeartbeats 4000000
namespace Go.Proofs.YtejbgoigkefnfaaGreatDoor
section
open Go.RowKit
mutual
theorem countF_bd : ∀ (f : Fo) (most : Int), 0 <= most -> 1 <= countF f most /\ countF f most <= most + 1
 | .mk _ _ _ _ ks, most, h => by simpa [countF] using countL_bd ks most 1 (by omega) (by omega) (by omega)
theorem countL_bd : ∀ (ks : List Fo) (most n : Int), 0 <= most -> 1 <= n -> n <= most + 1 -> 1 <= countL ks most n /\ countL ks most n <= most + 1
 | [], most, n, _, h1, h2 => ⟨h1, h2⟩
 | k :: ks, most, n, h0, h1, h2 => by
  unfold countL
  split
  ·have := countF_bd k (most - n) (by omega)
   exact countL_bd ks most _ h0 (by omega) (by omega)
  ·exact ⟨h1, h2⟩
end
theorem countL_drop (ks : List Fo) (k : Nat) (h : k < ks.length) (most n : Int) :
  countL (ks.drop k) most n = if n <= most then countL (ks.drop (k + 1)) most (n + countF ks[k] (most - n)) else n := by
 rw [List.drop_eq_getElem_cons h, countL]
theorem count_any (N : Nat) : ∀ (f : Fo) (most : Int) (v : Value) (w : World) (B : Nat), f.size <= N -> 0 <= most -> most <= 1000000 -> B <= w.heap.size -> f.In w B v ->
  Calls Tryz.prog 85 #[v, .int .i64 most] w fun e w' => e = .returned (.int .i64 (countF f most)) /\ Below w.heap.size w w' := by
 induction N with
 | zero => intro f _ _ _ _ h; have := f.size_pos; omega
 | succ N ih =>
 intro most' most v w B hN hm0 hm1 hB hf; obtain ⟨op, nm, c, n, ks⟩ := most'; obtain ⟨ao, cap, rfl, h1, h2, h3, h4, h5, h6, h7⟩ := hf
 have IH : Hid (∀ (f : Fo) (most : Int) (v : Value) (w : World) (B : Nat), f.size <= N -> 0 <= most -> most <= 1000000 -> B <= w.heap.size -> f.In w B v ->
  Calls Tryz.prog 85 #[v, .int .i64 most] w fun e w' => e = .returned (.int .i64 (countF f most)) /\ Below w.heap.size w w') := ih
 clear ih h1 h2 h3 h4; unfold maxLen at h6; have HC : Hid (countL ks most 1 = countF (.mk op nm c n ks) most) := by rw [countF]; rfl
 generalize countF (.mk op nm c n ks) most = R at *
 have H7 := Lib.hid h7; clear h7; go_enter Tryz.func85, Tryz.ntmps85; go_wp2
 go_loopw [5, 6] (fun n i wr => ∃ (k : Nat) (m : Int), k <= ks.length /\ i = .int .i64 k /\ n = .int .i64 m /\ 1 <= m /\ m <= most + 1 /\ Below w.heap.size w wr /\
  wr.cell? ⟨w.heap.size, 4, none⟩ = some (.slice ao ks.length cap) /\ w.heap.size < wr.heap.size /\ Hid (countL (ks.drop k) most m = R)) (fun n i _ => ks.length - (intOf i).toNat)
 case atStart =>
  exact ⟨0, 1, by omega, rfl, rfl, by omega, by omega, (Below.refl _ _).alloc (Nat.le_refl _) _, by go_simp, by simp, by simpa [Hid] using HC⟩
 case round =>
  obtain ⟨k, m, hk, rfl, rfl, hm1, hm2, hb, hc4, hsz, hR⟩ := hrel; by_cases hlt : k < ks.length
  ·by_cases hmm : m <= most
   ·obtain ⟨b, off, rfl, hbB, hL⟩ := H7.out (by intro h; simp [h] at hlt)
    obtain ⟨ka, kc, g0, g1, g2, g3, g4, gk⟩ := Fo.InL.get ks off k hlt (Fo.InL.below (hb.mono hB) hbB ks off hL); have hbd := countF_bd ks[k] (most - m) (by omega); have hsk := Fo.size_get ks k hlt; rw [Fo.size] at hN; have GK := Lib.hid gk; clear gk hL H7 HC; rw [Hid, countL_drop ks k hlt, if_pos hmm] at hR; have HR := Lib.hid hR; clear hR; go_wp2_with (go_at_call 85; refine (IH.out _ _ _ _ B (by omega) (by omega) (by omega) (by omega) GK.out).mono ?_; rintro e w' ⟨rfl, hb'⟩); go_roundw
    case rel =>
     exact ⟨k + 1, m + countF ks[k] (most - m), by omega, by go_num, rfl, by omega, by omega, hb.trans (hb'.mono (by omega)), (hb'.cell (by simp; omega)).trans hc4, by have := hb'.size; omega, HR⟩
    case measure => simp [intOf]; omega
   ·rw [Hid, countL_drop ks k hlt, if_neg hmm] at hR
    have HR := Lib.hid hR; have hd : decide (m <= most) = false := by simpa using hmm
    clear hR H7 HC hmm; go_wp2; go_ret; exact ⟨ret_int HR.out, hb⟩
  ·have hR' : m = R := by
    have : k = ks.length := by omega
    subst this
    simpa [Hid, countL] using hR
   have HR := Lib.hid hR'; clear hR' hR H7 HC; go_wp2; go_ret; exact ⟨ret_int HR.out, hb⟩
def smallF (f : Fo) (most : Int) : Bool := decide (countF f most <= most)
theorem small_any (f : Fo) (most : Int) (v : Value) (w : World) (B : Nat) (hm0 : 0 <= most) (hm1 : most <= 1000000) (hB : B <= w.heap.size) (hf : f.In w B v) :
  Calls Tryz.prog 36 #[v, .int .i64 most] w fun e w' => e = .returned (.bool (smallF f most)) /\ Below w.heap.size w w' := by
 obtain ⟨ao, cap, rfl⟩ := hf.shape; have HF := Lib.hid hf; clear hf; go_enter Tryz.func36, Tryz.ntmps36; go_wp2_with (go_at_call 85; refine (count_any f.size f most _ _ B (Nat.le_refl _) hm0 hm1 ?_ ?_).mono ?_; (simp; omega); exact Fo.In.below ((Below.refl _ _).alloc (by omega) _) _ _ HF.out; rintro e w' ⟨rfl, hb'⟩); go_ret; exact ⟨rfl, ((Below.refl _ _).alloc (by omega) _).trans (hb'.mono (by simp))⟩
end
section
open Go.RowKit
theorem countL_ge : ∀ (ks : List Fo) (most n : Int), 0 <= most -> 1 <= n -> n <= most + 1 -> n <= countL ks most n
 | [], most, n, _, _, _ => by rw [countL]; omega
 | k :: ks, most, n, h0, h1, h2 => by
  rw [countL]
  split
  ·have := countF_bd k (most - n) (by omega)
   have := countL_ge ks most (n + countF k (most - n)) h0 (by omega) (by omega); omega
  ·omega
mutual
theorem countF_eq : ∀ (f : Fo) (most : Int), 0 <= most -> countF f most <= most -> countF f most = (f.size : Int)
 | .mk _ _ _ _ ks, most, h0, h => by
  rw [countF] at h ⊢; rw [countL_eq ks most 1 (by omega) (by omega) (by omega) h, Fo.size]; omega
theorem countL_eq : ∀ (ks : List Fo) (most n : Int), 0 <= most -> 1 <= n -> n <= most + 1 -> countL ks most n <= most -> countL ks most n = n + (Fo.sizeL ks : Int)
 | [], most, n, _, _, _, _ => by rw [countL, Fo.sizeL]; omega
 | k :: ks, most, n, h0, h1, h2, h => by
  rw [countL] at h ⊢; by_cases hn : n <= most
  ·rw [if_pos hn] at h ⊢
   have hb := countF_bd k (most - n) (by omega); have hg := countL_ge ks most (n + countF k (most - n)) (by omega) (by omega) (by omega); have hk := countF_eq k (most - n) (by omega) (by omega); rw [countL_eq ks most (n + countF k (most - n)) h0 (by omega) (by omega) h, hk, Fo.sizeL]; omega
  ·rw [if_neg hn] at h
   omega
end
theorem smallF_size {f : Fo} {most : Nat} (h : smallF f most = true) : f.size <= most := by
 unfold smallF at h; have h1 := of_decide_eq_true h; have := countF_eq f most (by omega) h1; omega
def smallB (f : Fo) (d : List Fa) : Bool := smallF f 250 && decide ((d.length : Int) <= 70) && decide (cellsG f 400 d 1 <= 400)
theorem smallD_any (f : Fo) (d : List Fa) (v u : Value) (w : World) (B : Nat) (hB : B <= w.heap.size) (hf : f.In w B v) (hd : DomIn w B d u) :
  Calls Tryz.prog 11 #[v, u] w fun e w' => e = .returned (.bool (smallB f d)) /\ Below w.heap.size w w' := by
 obtain ⟨ao, cap, rfl⟩ := hf.shape; have HD := Lib.hid hd; have HF := Lib.hid hf; obtain ⟨du, rfl, hdu⟩ := hd; obtain ⟨ad, cd, rfl, d1, d2, _⟩ := SlIn.shape hdu; unfold maxLen at d2; have hb2 : Below w.heap.size w ((w.alloc (.cells #[.int .i64 f.op, .string f.name, .int .i64 f.cmp, .int .i64 f.n, .slice ao f.kids.length cap] 24)).alloc (.cells #[.slice ad d.length cd] 27)) := ((Below.refl _ _).alloc (Nat.le_refl _) _).alloc (by simp) _; have HK0 : Hid (Blk ((w.alloc (.cells #[.int .i64 f.op, .string f.name, .int .i64 f.cmp, .int .i64 f.n, .slice ao f.kids.length cap] 24)).alloc (.cells #[.slice ad d.length cd] 27)) w.heap.size 24 #[.int .i64 f.op, .string f.name, .int .i64 f.cmp, .int .i64 f.n, .slice ao f.kids.length cap]) := (Blk.new w 24 #[.int .i64 f.op, .string f.name, .int .i64 f.cmp, .int .i64 f.n, .slice ao f.kids.length cap]).alloc _; have HK1 : Hid (Blk ((w.alloc (.cells #[.int .i64 f.op, .string f.name, .int .i64 f.cmp, .int .i64 f.n, .slice ao f.kids.length cap] 24)).alloc (.cells #[.slice ad d.length cd] 27)) (w.heap.size + 1) 27 #[.slice ad d.length cd]) := hd_two w _ _ _; have HB2 := Lib.hid hb2; have HS := Lib.hid (small_any f 250 _ ((w.alloc (.cells #[.int .i64 f.op, .string f.name, .int .i64 f.cmp, .int .i64 f.n, .slice ao f.kids.length cap] 24)).alloc (.cells #[.slice ad d.length cd] 27)) B (by omega) (by omega) (by simp; omega) (Fo.In.below (hb2.mono hB) _ _ HF.out)); have x0 := HK0.out.cell 0; have x1 := HK0.out.cell 1; have x2 := HK0.out.cell 2; have x3 := HK0.out.cell 3; have x4 := HK0.out.cell 4; clear hf hdu hb2; go_enter Tryz.func11, Tryz.ntmps11; cases hs : smallF f 250 with
 | false =>
  rw [hs] at HS; go_wp2_with (go_at_call 36; refine HS.out.mono ?_; rintro e w1 ⟨rfl, hb1⟩; have HB1 := Lib.hid hb1; clear hb1; have x0 := (HK0.out.below HB1.out).cell 0; have x1 := (HK0.out.below HB1.out).cell 1; have x2 := (HK0.out.below HB1.out).cell 2; have x3 := (HK0.out.below HB1.out).cell 3; have x4 := (HK0.out.below HB1.out).cell 4; have y0 := (HK1.out.below HB1.out).cell 0); refine bodyPost_ret (by simp [results, Tryz.results11, go_sem]; try rfl) rfl ?_; exact ⟨by unfold smallB; rw [hs]; rfl, HB2.out.trans (HB1.out.mono (by simp; omega))⟩
 | true =>
  rw [hs] at HS; have hsz := smallF_size (most := 250) hs
  have HC : Hid (∀ w', Below w.heap.size w w' -> Calls Tryz.prog 37 #[.agg #[.int .i64 f.op, .string f.name, .int .i64 f.cmp, .int .i64 f.n, .slice ao f.kids.length cap], .agg #[.slice ad d.length cd], .int .i64 400] w' fun e w'' => e = .returned (.int .i64 (cellsG f 400 d 1)) /\ Below w'.heap.size w' w'') := fun w' hb =>
   cellsG_any f d 400 _ _ w' B (by have := hb.size; omega) (Fo.In.below (hb.mono hB) _ _ HF.out) (HD.out.below (hb.mono hB)) (by omega) (by omega)
  by_cases h7 : (d.length : Int) <= 70
  ·by_cases h4 : cellsG f 400 d 1 <= 400
   ·have hR : smallB f d = true := by unfold smallB; rw [hs]; simp [h7, h4]
    go_wp2_with (first | (go_at_call 36; refine HS.out.mono ?_; rintro e w1 ⟨rfl, hb1⟩; have HB1 := Lib.hid hb1; clear hb1; have x0 := (HK0.out.below HB1.out).cell 0; have x1 := (HK0.out.below HB1.out).cell 1; have x2 := (HK0.out.below HB1.out).cell 2; have x3 := (HK0.out.below HB1.out).cell 3; have x4 := (HK0.out.below HB1.out).cell 4; have y0 := (HK1.out.below HB1.out).cell 0) | (go_at_call 37; refine (HC.out _ (HB2.out.trans (HB1.out.mono (by simp; omega)))).mono ?_; rintro e w2 ⟨rfl, hb2⟩)); refine bodyPost_ret (by simp [results, Tryz.results11, go_sem]; try rfl) rfl ?_; exact ⟨by rw [hR], (HB2.out.trans (HB1.out.mono (by simp; omega))).trans (hb2.mono (by have := HB1.out.size; simp at this; omega))⟩
   ·have hR : smallB f d = false := by unfold smallB; rw [hs]; simp [h7]; omega
    go_wp2_with (first | (go_at_call 36; refine HS.out.mono ?_; rintro e w1 ⟨rfl, hb1⟩; have HB1 := Lib.hid hb1; clear hb1; have x0 := (HK0.out.below HB1.out).cell 0; have x1 := (HK0.out.below HB1.out).cell 1; have x2 := (HK0.out.below HB1.out).cell 2; have x3 := (HK0.out.below HB1.out).cell 3; have x4 := (HK0.out.below HB1.out).cell 4; have y0 := (HK1.out.below HB1.out).cell 0) | (go_at_call 37; refine (HC.out _ (HB2.out.trans (HB1.out.mono (by simp; omega)))).mono ?_; rintro e w2 ⟨rfl, hb2⟩)); refine bodyPost_ret (by simp [results, Tryz.results11, go_sem]; try rfl) rfl ?_; exact ⟨by first | (rw [hR]; done) | rfl | (rw [hR]; simp; omega) | (simp; omega), (HB2.out.trans (HB1.out.mono (by simp; omega))).trans (hb2.mono (by have := HB1.out.size; simp at this; omega))⟩
  ·have hR : smallB f d = false := by unfold smallB; rw [hs]; simp; omega
   go_wp2_with (go_at_call 36; refine HS.out.mono ?_; rintro e w1 ⟨rfl, hb1⟩; have HB1 := Lib.hid hb1; clear hb1; have x0 := (HK0.out.below HB1.out).cell 0; have x1 := (HK0.out.below HB1.out).cell 1; have x2 := (HK0.out.below HB1.out).cell 2; have x3 := (HK0.out.below HB1.out).cell 3; have x4 := (HK0.out.below HB1.out).cell 4; have y0 := (HK1.out.below HB1.out).cell 0); refine bodyPost_ret (by simp [results, Tryz.results11, go_sem]; try rfl) rfl ?_; exact ⟨by first | rfl | (rw [hR]), HB2.out.trans (HB1.out.mono (by simp; omega))⟩
end
section
theorem built_small {f : Fo} {d : List Fa} (hs : smallB f d = true) (hv : validD d = true) (hc : checkF f d (fun _ => false) = 0) : BuiltB d f := by
 unfold smallB at hs; simp only [Bool.and_eq_true, decide_eq_true_eq] at hs; have h := small_cells (dom_ok hv) (wf_check hc) (n := 400) hs.2; exact built (dom_ok hv) (wf_check hc) (by omega)
theorem walk_same {t : List Dn} (h : ∀ k, k < t.length -> (t.getD k default).kids ≠ [] -> (t.getD k default).kids.length = (t.getD k default).cuts.length + 1) (c : List Int) : ∀ (f : Nat) (a : Int), walkG t c f a = walkD t c f a
 | 0, _ => rfl
 | f + 1, a => by
  unfold walkG walkD; by_cases h1 : a < 0 \/ t.length <= a.toNat
  ·rw [if_pos h1, if_pos (by omega)]
  ·rw [if_neg h1, if_neg (by omega)]
   by_cases h2 : (t.getD a.toNat default).kids = []
   ·rw [if_pos h2, if_pos h2]
   ·rw [if_neg h2, if_neg h2]
    by_cases h3 : (t.getD a.toNat default).fact < 0 \/ c.length <= (t.getD a.toNat default).fact.toNat
    ·rw [if_pos h3, if_pos (by omega)]
    ·rw [if_neg h3, if_neg (by omega), nextG_eq (h a.toNat (by omega) h2), Int.toNat_natCast]
     by_cases h4 : (t.getD a.toNat default).kids.length <= nextI (t.getD a.toNat default).cuts (c.getD (t.getD a.toNat default).fact.toNat 0)
     ·rw [if_pos h4, if_pos (by omega)]
     ·rw [if_neg h4, if_neg (by omega)]
      exact walk_same h c f _
theorem ValidG.lens {d : List Fa} {t : List Dn} (h : ValidG d t) : ∀ k, k < t.length -> (t.getD k default).kids ≠ [] -> (t.getD k default).kids.length = (t.getD k default).cuts.length + 1 := fun k hk hne => ((h.table k hk).inner hne).2.2.2.2.1
theorem table64 {d : List Fa} {t : List Dn} (h : ValidG d t) : ∀ n ∈ t, n.kids.length <= 1000001 /\ n.cuts.length <= 1000000 /\ 0 <= n.fact /\ n.fact <= 60 /\ (∀ x ∈ n.cuts, 0 <= x /\ x <= 1000000) /\ ∀ x ∈ n.kids, 0 <= x /\ x <= 20000 := by
 intro n hn; have hd := dom_ok h.dom; have hf := table_few hd h.table n hn; obtain ⟨k, hk, rfl⟩ := List.getElem_of_mem hn; have hp := h.table k hk; rw [getD_dg _ _ _ hk] at hp; refine ⟨hf.1, hf.2, ?_⟩; by_cases hz : t[k].kids = []
 ·rw [hz, (hp.leaf hz).2, (hp.leaf hz).1]; simp
 ·have hin := hp.inner hz
  have hl := hd.lohi _ hin.2.2.1; have hdl := hd.len; refine ⟨hin.2.1, by have := hin.2.2.1; omega, fun x hx => ?_, fun x hx => ?_⟩
  ·have := chain_mem _ _ hin.2.2.2.2.2.1 x hx
   omega
  ·have := hin.2.2.2.2.2.2.2 x hx
   have := h.few; omega
theorem valid_64 {d : List Fa} {t : List Dn} (h : ValidG d t) : ∀ n ∈ t, Dn64 n := fun n hn => by
 obtain ⟨h1, h2, h3, h4, h5, h6⟩ := table64 h n hn; refine ⟨⟨by omega, by omega⟩, fun x hx => ?_, fun x hx => ?_, h2, h1⟩
 ·have := h5 x hx; exact ⟨by omega, by omega⟩
 ·have := h6 x hx; exact ⟨by omega, by omega⟩
end
end Go.Proofs.YtejbgoigkefnfaaGreatDoor
