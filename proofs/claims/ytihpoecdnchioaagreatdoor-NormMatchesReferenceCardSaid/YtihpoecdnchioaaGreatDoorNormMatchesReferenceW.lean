/- The walks of pandectref06.Fits, of pandectref14.Proper, applied, Circles, Wrong, Applies, Blocked, and of law14.NormMatchesReference. A bound on the number of provisions and on the conditions' sizes. -/
import Derived.Test.YtihpoecdnchioaaGreatDoorRef
import Derived.Test.YtihpoecdnchioaaGreatDoorReach
import Derived.Test.YtihpoecdnchioaaGreatDoorHead
import Derived.Maps.AppendAt
import Derived.Deep.RegionHeld3
namespace Go.Proofs.YtihpoecdnchioaaGreatDoor
open Go.RowKit Tj

/-- the cells of a law's box -/
def L3 (W : World) (H : Nat) (v0 v1 v2 : Value) : Prop := W.cell? ⟨H, 0, none⟩ = some v0 ∧ W.cell? ⟨H, 1, none⟩ = some v1 ∧ W.cell? ⟨H, 2, none⟩ = some v2
theorem l3_up {W W' : World} {B H : Nat} {v0 v1 v2 : Value} (h : L3 W H v0 v1 v2) (hb : Below B W W') (hB : H < B) : L3 W' H v0 v1 v2 :=
  ⟨(hb.cell (p := ⟨H, 0, none⟩) hB).trans h.1, (hb.cell (p := ⟨H, 1, none⟩) hB).trans h.2.1, (hb.cell (p := ⟨H, 2, none⟩) hB).trans h.2.2⟩

section
set_option maxRecDepth 100000 in
set_option maxHeartbeats 1000000 in
theorem refFits_any (d : List Fa) (c : List Int) (v u : Value) (w : World) (B : Nat) (hB : B ≤ w.heap.size) (hd : DomIn w B d v) (hc : IntsIn w B c u) :
    Calls Tryz.prog 50 #[v, u] w fun e w' => e = .returned (.bool (fitsD d c)) ∧ Below w.heap.size w w' := by
  have hd0 := hd
  obtain ⟨u0, rfl, hd⟩ := hd
  obtain ⟨ad, cd, rfl, d1, d2, _⟩ := SlIn.shape hd
  obtain ⟨ac, cc, rfl, c1, c2, _⟩ := SlIn.shape hc
  unfold maxLen at d2 c2
  have HD := Lib.hid hd
  have HD0 := Lib.hid hd0
  have HC := Lib.hid hc
  have HR : Hid (fitsD d c = (validD d && decide (c.length = d.length) && inRs d c)) := rfl
  generalize fitsD d c = R at *
  clear hd hc hd0
  go_enter Tryz.func50, Tryz.ntmps50
  cases hv : validD d with
  | false =>
    have HS := Lib.hid (show R = false by rw [HR.out, hv]; rfl)
    go_wp2_with (go_at_call 71; refine (refValid_any d _ _ B ?_ ?_).mono ?_; (simp; omega); exact DomIn.below ((Below.refl _ _).alloc (by omega) _) HD0.out; rintro e w2 ⟨rfl, hb2⟩)
    go_ret
    exact ⟨ret_bool HS.out.symm, ((Below.refl _ _).alloc (Nat.le_refl _) _).trans (hb2.mono (by simp))⟩
  | true =>
    by_cases hlen : c.length = d.length
    · have hl1 : ((c.length : Int) != d.length) = false := by simp [hlen]
      have HL := Lib.hid hlen
      have HS := Lib.hid (show R = inRs (d.drop 0) (c.drop 0) by rw [HR.out, hv, decide_eq_true hlen]; rfl)
      clear hlen
      go_wp2_with (go_at_call 71; refine (refValid_any d _ _ B ?_ ?_).mono ?_; (simp; omega); exact DomIn.below ((Below.refl _ _).alloc (by omega) _) HD0.out; rintro e w2 ⟨rfl, hb2⟩; have q0 := (hb2.cell (p := ⟨w.heap.size, 0, none⟩) (by simp)).trans (show _ = some (Value.slice ad d.length cd) by rw [World.cell?_alloc_at _ _ _ _ rfl]; rfl); have hz2 := hb2.size; rw [World.size_alloc] at hz2)
      have HB := Lib.hid (((Below.refl w.heap.size w).alloc (Nat.le_refl _) (.cells #[.slice ad d.length cd] 24)).trans (hb2.mono (by simp)))
      clear hb2
      go_loopw [5] (fun i wr => ∃ k : Nat, k ≤ c.length ∧ i = .int .i64 k ∧ Hid (R = inRs (d.drop k) (c.drop k)) ∧ Hid (Below w.heap.size w wr) ∧ w.heap.size < wr.heap.size ∧ wr.cell? ⟨w.heap.size, 0, none⟩ = some (.slice ad d.length cd)) (fun i _ => c.length - (intOf i).toNat)
      case atStart => exact ⟨0, by omega, rfl, HS, HB, by omega, q0⟩
      case round =>
        obtain ⟨k, hk, rfl, hin, hb, hsz, hq⟩ := hrel
        clear q0
        by_cases hlt' : k < c.length
        · have hlt : k < d.length := by have := HL.out; omega
          obtain ⟨b, off, rfl, hbB, f0, f1, f2, f3, hz, wk, wl, wh⟩ := SlIn.at (HD.out.below FaR.kept (hb.out.mono hB)) k hlt
          obtain ⟨b', off', rfl, hbB', hcc⟩ := SlIn.one (HC.out.below (hb.out.mono hB)) k hlt'
          have hin2 := hin.out
          rw [inRs_drop d c k hlt hlt'] at hin2
          generalize d[k] = f at *
          generalize c[k] = x at *
          have HI := Lib.hid hin2
          have HBE := hb
          have k0 : (0 : Int) ≤ (k : Int) := Int.natCast_nonneg _
          have k1 : (k : Int) < (c.length : Int) := by omega
          have k2 : (k : Int) < (d.length : Int) := by omega
          clear hin2 hin HR HS hb
          by_cases g1 : x < f.lo
          · have g1d : decide (x < f.lo) = true := by simpa using g1
            have HS := Lib.hid (show R = false by rw [HI.out, inR, show decide (f.lo ≤ x) = false by simp; omega]; simp)
            go_wp2
            go_quiet (fail)
            go_wp2
            go_ret
            exact ⟨ret_bool HS.out.symm, HBE.out.trans (World.drewN_below _ _ _)⟩
          · have g1d : decide (x < f.lo) = false := by simpa using g1
            by_cases g2 : f.hi < x
            · have g2d : decide (f.hi < x) = true := by simpa using g2
              have HS := Lib.hid (show R = false by rw [HI.out, inR, show decide (x ≤ f.hi) = false by simp; omega]; simp)
              clear g1
              go_wp2
              go_quiet (fail)
              go_wp2
              go_ret
              exact ⟨ret_bool HS.out.symm, HBE.out.trans (World.drewN_below _ _ _)⟩
            · have g2d : decide (f.hi < x) = false := by simpa using g2
              have HS := Lib.hid (show R = inRs (d.drop (k + 1)) (c.drop (k + 1)) by rw [HI.out, inR, decide_eq_true (show f.lo ≤ x by omega), decide_eq_true (show x ≤ f.hi by omega)]; simp)
              clear g1 g2
              go_wp2
              go_quiet (fail)
              go_wp2
              go_roundw
              case rel => exact ⟨k + 1, by omega, by go_num, HS, Lib.hid (HBE.out.trans (World.drewN_below _ _ _)), by simp; omega, hq⟩
              case measure => simp [intOf]; omega
        · have HS2 := Lib.hid (show R = true by
            have h0 := hin.out
            rw [List.drop_of_length_le (by have := HL.out; omega), List.drop_of_length_le (by omega)] at h0
            exact h0)
          clear hin
          go_wp2
          go_ret
          exact ⟨ret_bool HS2.out.symm, hb.out⟩
    · have hl1 : ((c.length : Int) != d.length) = true := by rw [bne_iff_ne]; omega
      have HS := Lib.hid (show R = false by rw [HR.out, decide_eq_false hlen]; simp)
      clear hlen
      go_wp2_with (go_at_call 71; refine (refValid_any d _ _ B ?_ ?_).mono ?_; (simp; omega); exact DomIn.below ((Below.refl _ _).alloc (by omega) _) HD0.out; rintro e w2 ⟨rfl, hb2⟩; have q0 := (hb2.cell (p := ⟨w.heap.size, 0, none⟩) (by simp)).trans (show _ = some (Value.slice ad d.length cd) by rw [World.cell?_alloc_at _ _ _ _ rfl]; rfl); have hz2 := hb2.size; rw [World.size_alloc] at hz2)
      go_ret
      exact ⟨ret_bool HS.out.symm, ((Below.refl _ _).alloc (Nat.le_refl _) _).trans (hb2.mono (by simp))⟩

/-- a law is proper -/
def properB (d : List Fa) (ps : List Pv) : Bool := (validD d && okP ps) && !(ps.any (badF d))
theorem any_take2 {α : Type} (p : α → Bool) (l : List α) (k : Nat) (h : k < l.length) : (l.take (k + 1)).any p = ((l.take k).any p || p l[k]) := by
  rw [List.take_succ_eq_append_getElem h, List.any_append, List.any_cons, List.any_nil, Bool.or_false]

set_option maxRecDepth 100000 in
set_option maxHeartbeats 4000000 in
theorem refProper_any (d : List Fa) (ps : List Pv) (v : Value) (w : World) (B : Nat) (hn : ps.length ≤ 1000) (hB : B ≤ w.heap.size) (hl : LawIn w B d ps v) (hsz : ∀ p ∈ ps, p.cond.size ≤ 1000000) :
    Calls Tryz.prog 49 #[v] w fun e w' => e = .returned (.bool (properB d ps)) ∧ Below w.heap.size w w' := by
  have hl0 := hl
  obtain ⟨u1, u2, asn, ns, cs, rfl, hd, hp⟩ := hl
  obtain ⟨ad, cd, rfl, d1, d2, _⟩ := SlIn.shape hd
  obtain ⟨ap, cp, rfl, p1, p2, _⟩ := SlIn.shape hp
  unfold maxLen at p2
  have hbw : Below w.heap.size w (w.alloc (.cells #[.slice ad d.length cd, .slice ap ps.length cp, .slice asn ns cs] 28)) := (Below.refl _ _).alloc (Nat.le_refl _) _
  have K0 := Blk.new w 28 #[.slice ad d.length cd, .slice ap ps.length cp, .slice asn ns cs]
  have HX : Hid (L3 (w.alloc (.cells #[.slice ad d.length cd, .slice ap ps.length cp, .slice asn ns cs] 28)) w.heap.size (.slice ad d.length cd) (.slice ap ps.length cp) (.slice asn ns cs)) := ⟨K0.cell 0, K0.cell 1, K0.cell 2⟩
  obtain ⟨x0, x1, x2⟩ := HX.out
  have HBW := Lib.hid hbw
  have HP := Lib.hid hp
  have HDM : Hid (DomIn w B d (.agg #[.slice ad d.length cd])) := ⟨_, rfl, hd⟩
  have HVA := Lib.hid (fun W (hb : Below w.heap.size w W) => refValid_any d _ W B (Nat.le_trans hB hb.size) (HDM.out.below (hb.mono hB)))
  have HDI := Lib.hid (fun W (hb : Below w.heap.size w W) => diff_any d ps _ W B (Nat.le_trans hB hb.size) (hl0.below (hb.mono hB)))
  have HR : Hid (properB d ps = ((validD d && okP ps) && !(ps.any (badF d)))) := rfl
  have HSZ := Lib.hid hsz
  have hn2 : decide ((2000 : Int) < (ps.length : Int)) = false := decide_eq_false (by omega)
  generalize properB d ps = R at *
  clear hl0 hd hp hbw K0 hsz
  cases hv : validD d with
  | false =>
    rw [hv] at HVA
    have HS := Lib.hid (show R = false by rw [HR.out, hv]; rfl)
    clear hv HR
    go_enter Tryz.func49, Tryz.ntmps49
    go_wp2_with (go_at_call 71; refine (HVA.out _ HBW.out).mono ?_; rintro e w2 ⟨rfl, hb2⟩; obtain ⟨y0, y1, y2⟩ := l3_up HX.out hb2 (by simp); have HB2 := Lib.hid (HBW.out.trans (hb2.mono (by simp))); have hz2 := hb2.size; simp only [World.size_alloc] at hz2; clear hb2 x0 x1 x2)
    go_ret
    exact ⟨ret_bool HS.out.symm, HB2.out⟩
  | true =>
    rw [hv] at HVA
    cases ho : okP ps with
    | false =>
      rw [ho] at HDI
      have HS := Lib.hid (show R = false by rw [HR.out, ho]; simp)
      clear hv ho HR
      go_enter Tryz.func49, Tryz.ntmps49
      go_wp2_with (first
        | (go_at_call 71; refine (HVA.out _ HBW.out).mono ?_; rintro e w2 ⟨rfl, hb2⟩; obtain ⟨y0, y1, y2⟩ := l3_up HX.out hb2 (by simp); have HB2 := Lib.hid (HBW.out.trans (hb2.mono (by simp))); have hz2 := hb2.size; simp only [World.size_alloc] at hz2; clear hb2 x0 x1 x2)
        | (go_at_call 23; refine (HDI.out _ HB2.out).mono ?_; rintro e w3 ⟨rfl, hb3⟩; have z0 := (hb3.cell (p := ⟨w.heap.size, 0, none⟩) (by show w.heap.size < _; omega)).trans y0; have z1 := (hb3.cell (p := ⟨w.heap.size, 1, none⟩) (by show w.heap.size < _; omega)).trans y1; have z2 := (hb3.cell (p := ⟨w.heap.size, 2, none⟩) (by show w.heap.size < _; omega)).trans y2; have HB3 := Lib.hid (HB2.out.trans (hb3.mono (by omega))); have hz3 := hb3.size; clear hb3 y0 y1 y2))
      go_ret
      exact ⟨ret_bool HS.out.symm, HB3.out⟩
    | true =>
      rw [ho] at HDI
      have HS : Hid (R = !(ps.any (badF d))) := by show _ = _; rw [HR.out, hv, ho]; rfl
      clear hv ho HR
      go_enter Tryz.func49, Tryz.ntmps49
      go_wp2_with (first
        | (go_at_call 71; refine (HVA.out _ HBW.out).mono ?_; rintro e w2 ⟨rfl, hb2⟩; obtain ⟨y0, y1, y2⟩ := l3_up HX.out hb2 (by simp); have HB2 := Lib.hid (HBW.out.trans (hb2.mono (by simp))); have hz2 := hb2.size; simp only [World.size_alloc] at hz2; clear hb2 x0 x1 x2)
        | (go_at_call 23; refine (HDI.out _ HB2.out).mono ?_; rintro e w3 ⟨rfl, hb3⟩; have z0 := (hb3.cell (p := ⟨w.heap.size, 0, none⟩) (by show w.heap.size < _; omega)).trans y0; have z1 := (hb3.cell (p := ⟨w.heap.size, 1, none⟩) (by show w.heap.size < _; omega)).trans y1; have z2 := (hb3.cell (p := ⟨w.heap.size, 2, none⟩) (by show w.heap.size < _; omega)).trans y2; have HB3 := Lib.hid (HB2.out.trans (hb3.mono (by omega))); have hz3 := hb3.size; clear hb3 y0 y1 y2))
      have HX3 : Hid (L3 w3 w.heap.size _ _ _) := ⟨z0, z1, z2⟩
      clear z0 z1 z2
      go_loopw [3] (fun iv wr => ∃ k : Nat, k ≤ ps.length ∧ iv = .int .i64 k ∧ Hid ((ps.take k).any (badF d) = false) ∧ Hid (Below w.heap.size w wr) ∧ w.heap.size < wr.heap.size ∧ Hid (L3 wr w.heap.size (.slice ad d.length cd) (.slice ap ps.length cp) (.slice asn ns cs))) (fun iv _ => ps.length - (intOf iv).toNat)
      case atStart => exact ⟨0, Nat.zero_le _, rfl, rfl, HB3, by omega, HX3⟩
      case round =>
        obtain ⟨k, hk, rfl, hin, hbw, hsw, hxx⟩ := hrel
        obtain ⟨y0, y1, y2⟩ := hxx.out
        by_cases hlt : k < ps.length
        · obtain ⟨b, off, rfl, hbB, ak, ck, ae, ce, hr, hf, he, hzz⟩ := SlIn.at (HP.out.below PvR.kept (hbw.out.mono hB)) k hlt
          have ht := any_take2 (badF d) ps k hlt
          rw [hin.out, Bool.false_or] at ht
          have hsk := HSZ.out ps[k] (List.getElem_mem hlt)
          have hno : badF d ps[k] = true → R = false := fun h => by
            rw [HS.out, show ps.any (badF d) = true from List.any_eq_true.2 ⟨_, List.getElem_mem hlt, h⟩]; rfl
          have hbd : badF d ps[k] = decide (checkF ps[k].cond d (fun _ => false) ≠ 0) := rfl
          have CK := Lib.hid (refCheck_any ps[k].cond d _ _ wr.drew B hsk (Nat.le_trans hB hbw.out.size) (Fo.In.below (World.drewN_below _ _ 1) _ _ hf) (HDM.out.below ((hbw.out.trans (World.drewN_below _ _ 1)).mono hB)))
          generalize ps[k] = p at *
          have e5 := hr 5 _ rfl
          have e6 := hr 6 _ rfl
          have e7 := hr 7 _ rfl
          have e8 := hr 8 _ rfl
          have e9 := hr 9 _ rfl
          have HT := Lib.hid ht
          have HNO := Lib.hid hno
          have HBD := Lib.hid hbd
          have HKB := hbw
          have HXX := hxx
          have k0 : (0 : Int) ≤ (k : Int) := Int.natCast_nonneg _
          have k1 : (k : Int) < (ps.length : Int) := by omega
          generalize checkF p.cond d (fun _ => false) = E at *
          clear hr hf he hzz ht hno hbd hsk hin hbw hxx
          by_cases hE : E = 0
          · have gE : (E != 0) = false := by simp [hE]
            have HT2 := Lib.hid (show (ps.take (k + 1)).any (badF d) = false by rw [HT.out, HBD.out, hE]; rfl)
            clear hE
            go_wp2
            refine wp_region_still_tail 8 (by kernel_rfl) (by kernel_rfl) ?_
            simp only [List.take_succ_cons, List.take_zero, List.drop_succ_cons, List.drop_zero]
            iterate 8 still_step
            refine wpStill_nil ?_
            change wpList _ _ _ _ _ wr.drew
            go_wp2_with (go_at_call 72; refine CK.out.mono ?_; rintro e w8 ⟨rfl, hb8⟩; have HB8 := Lib.hid (HKB.out.trans (((World.drewN_below wr.heap.size wr 1).trans hb8).mono (by omega))); have HX8 := Lib.hid (l3_up HXX.out ((World.drewN_below wr.heap.size wr 1).trans hb8) hsw); have hz8 := hb8.size; obtain ⟨s0, s1, s2⟩ := HX8.out; clear hb8)
            go_roundw
            case rel => exact ⟨k + 1, by omega, by go_num, HT2, HB8, Nat.lt_of_lt_of_le hsw hz8, HX8⟩
            case measure => simp [intOf]; omega
          · have gE : (E != 0) = true := by simpa using hE
            have HS9 := Lib.hid (HNO.out (by rw [HBD.out, decide_eq_true hE]))
            clear hE
            go_wp2
            refine wp_region_still_tail 8 (by kernel_rfl) (by kernel_rfl) ?_
            simp only [List.take_succ_cons, List.take_zero, List.drop_succ_cons, List.drop_zero]
            iterate 8 still_step
            refine wpStill_nil ?_
            change wpList _ _ _ _ _ wr.drew
            go_wp2_with (go_at_call 72; refine CK.out.mono ?_; rintro e w8 ⟨rfl, hb8⟩; have HB8 := Lib.hid (HKB.out.trans (((World.drewN_below wr.heap.size wr 1).trans hb8).mono (by omega))); clear hb8)
            go_ret
            exact ⟨ret_bool HS9.out.symm, HB8.out⟩
        · have HS9 := Lib.hid (show R = true by
            have h0 := hin.out
            rw [List.take_of_length_le (by omega)] at h0
            rw [HS.out, h0]; rfl)
          clear hin
          go_wp2
          go_ret
          exact ⟨ret_bool HS9.out.symm, hbw.out⟩
end

end Go.Proofs.YtihpoecdnchioaaGreatDoor

namespace Go.Proofs.YtihpoecdnchioaaGreatDoor
open Go.RowKit Tj

theorem nodeErr_mono {d : List Fa} {x : Fo} (h : nodeErr d (fun _ => false) x = 0) : nodeErr d (fun _ => true) x = 0 := by
  unfold nodeErr at h ⊢
  by_cases h1 : formedB x = false
  · rw [if_pos h1] at h; cases h
  · rw [if_neg h1] at h ⊢
    by_cases h2 : x.op = 3 ∧ (x.n < 0 ∨ 1000000 < x.n)
    · rw [if_pos h2] at h; cases h
    · rw [if_neg h2] at h ⊢
      by_cases h3 : (x.op = 3 ∧ idxD d x.name < 0) ∨ (x.op = 4 ∧ (fun _ : ByteArray => false) x.name = false)
      · rw [if_pos h3] at h; cases h
      · rw [if_neg (fun h4 => h3 (h4.imp id (fun h5 => by cases h5.2)))]
theorem firstErr_mono {d : List Fa} : ∀ {l : List Fo}, firstErr d (fun _ => false) l = 0 → firstErr d (fun _ => true) l = 0
  | [], _ => rfl
  | x :: l, h => by
    rw [firstErr] at h ⊢
    by_cases hx : nodeErr d (fun _ => false) x = 0
    · rw [if_pos hx] at h
      rw [if_pos (nodeErr_mono hx)]
      exact firstErr_mono h
    · rw [if_neg hx] at h; exact absurd h hx
theorem check_mono {d : List Fa} {f : Fo} (h : checkF f d (fun _ => false) = 0) : checkF f d (fun _ => true) = 0 := by
  unfold checkF at h ⊢
  by_cases hc : 200 < f.size ∨ 20 < f.depth
  · rw [if_pos hc] at h; cases h
  · rw [if_neg hc] at h ⊢; exact firstErr_mono h
theorem prov_good {d : List Fa} {ps : List Pv} {c : List Int} (h0 : askE d ps c = 0) {p : Pv} (hp : p ∈ ps) : Good d p.cond ∧ holdsF p.cond d c [] = valF d c [] p.cond := by
  obtain ⟨_, h2, h3, _⟩ := askE_zero h0
  have hb : badF d p = false := by
    rw [List.any_eq_false] at h3
    simpa using h3 p hp
  have hc : checkF p.cond d (fun _ => false) = 0 := by unfold badF at hb; simpa using hb
  refine ⟨good_of_check (check_mono hc), ?_⟩
  unfold holdsF
  rw [check_mono hc, h2]
  simp
theorem fits_len {d : List Fa} {c : List Int} (h : fitsD d c = true) : c.length = d.length := by
  unfold fitsD at h
  simp only [Bool.and_eq_true, decide_eq_true_eq] at h
  exact h.1.2
/-- whether provision k excepts the one of an Id and applies -/
def exAp (ps : List Pv) (ap : Nat → Bool) (id : ByteArray) (k : Nat) : Bool := inB ((ps.map Pv.except).getD k []) id && ap k
theorem rows_any {ps : List Pv} (hn : (ps.map Pv.id).Nodup) {i : Nat} (hi : i < ps.length) (g : Nat → Bool) : ((rowsOf ps).getD i []).any g = (List.range ps.length).any (exAp ps g ps[i].id) := by
  rw [rowsOf_get hn i hi, List.any_filter]
  rfl
theorem load_law {w : World} {H : Nat} {v0 v1 v2 : Value} (h : L3 w H v0 v1 v2) : (Instr.loadAt 28 (.pointer (some ⟨H, 0, none⟩))).run Tryz.prog w = .ok (.agg #[v0, v1, v2]) w := by
  obtain ⟨h0, h1, h2⟩ := h
  go_simp
theorem getD_map {ps : List Pv} {k : Nat} (h : k < ps.length) : (ps.map Pv.except).getD k [] = ps[k].except := by simp [List.getD_eq_getElem?_getD, h]

section
set_option maxRecDepth 100000 in
set_option maxHeartbeats 8000000 in
theorem refApplied_step (d : List Fa) (ps : List Pv) (c : List Int) (hn : ps.length ≤ 1000) (hsz : ∀ p ∈ ps, p.cond.size ≤ 1000000) (h0 : askE d ps c = 0) (rk : Nat → Nat) (hrk : ∀ i, i < ps.length → ∀ y ∈ (rowsOf ps).getD i [], rk y < rk i) (N : Nat) :
    ∀ (i : Nat) (v cv : Value) (w : World) (B : Nat), rk i < N → i < ps.length → B ≤ w.heap.size → LawIn w B d ps v → IntsIn w B c cv →
      Calls Tryz.prog 31 #[v, .int .i64 (i : Int), cv] w fun e w' => e = .returned (.bool (apA d ps c (rowsOf ps) i)) ∧ Below w.heap.size w w' := by
  induction N with
  | zero => intro i _ _ _ _ h; omega
  | succ N ih =>
  intro i v cv w B hN hi hB hl hc
  have IH := Lib.hid ih
  clear ih
  have HL0 := Lib.hid hl
  have HC0 := Lib.hid hc
  obtain ⟨u1, u2, asn, ns, cs, rfl, hd, hp⟩ := hl
  obtain ⟨ad, cd, rfl, d1, d2, _⟩ := SlIn.shape hd
  obtain ⟨ap, cp, rfl, p1, p2, _⟩ := SlIn.shape hp
  obtain ⟨ac, cc, rfl, c1, c2, _⟩ := SlIn.shape hc
  unfold maxLen at p2
  have hbw : Below w.heap.size w (w.alloc (.cells #[.slice ad d.length cd, .slice ap ps.length cp, .slice asn ns cs] 28)) := (Below.refl _ _).alloc (Nat.le_refl _) _
  have K0 := Blk.new w 28 #[.slice ad d.length cd, .slice ap ps.length cp, .slice asn ns cs]
  have HX : Hid (L3 (w.alloc (.cells #[.slice ad d.length cd, .slice ap ps.length cp, .slice asn ns cs] 28)) w.heap.size (.slice ad d.length cd) (.slice ap ps.length cp) (.slice asn ns cs)) := ⟨K0.cell 0, K0.cell 1, K0.cell 2⟩
  have hszw : ((w.alloc (.cells #[.slice ad d.length cd, .slice ap ps.length cp, .slice asn ns cs] 28))).heap.size = w.heap.size + 1 := by simp
  have HBW := Lib.hid hbw
  have HP := Lib.hid hp
  have HDM : Hid (DomIn w B d (.agg #[.slice ad d.length cd])) := ⟨_, rfl, hd⟩
  obtain ⟨hnd, hlt_, hcz⟩ := ask_parts h0
  obtain ⟨_, hfit, _, _⟩ := askE_zero h0
  have hlen := fits_len hfit
  obtain ⟨hgood, hhv⟩ := prov_good h0 (List.getElem_mem hi)
  have hap := apA_eq (d := d) (c := c) hlt_ hcz i hi
  rw [hhv, rows_any hnd hi] at hap
  obtain ⟨b, off, rfl, hbB, ak, ck, ae, ce, hr, hf, he, hzz⟩ := SlIn.at (HP.out.below PvR.kept (HBW.out.mono hB)) i hi
  have hcs := hsz ps[i] (List.getElem_mem hi)
  have hrow : ∀ k, k < ps.length → inB ((ps.map Pv.except).getD k []) ps[i].id = true → rk k < rk i := fun k hk h => hrk i hi k (by rw [rowsOf_get hnd i hi, List.mem_filter]; exact ⟨List.mem_range.2 hk, h⟩)
  have hr0 : ∀ W, Below w.heap.size w W → W.cell? ⟨b, off + i * 23, none⟩ = some (.string ps[i].id) := fun W hb => by
    obtain ⟨_, _, ak2, ck2, ae2, ce2, hr2, _⟩ := SlIn.get HP.out i hi
    have h := (hb.cell (p := ⟨b, off + i * 23 + 0, none⟩) (by show b < _; omega)).trans (hr2 0 _ rfl)
    rwa [Nat.add_zero] at h
  have CV := Lib.hid (refValue_any d c hlen ps[i].cond.size ps[i].cond _ _ _ (World.drew (w.alloc (.cells #[.slice ad d.length cd, .slice (some ⟨b, off, none⟩) ps.length cp, .slice asn ns cs] 28))) B (Nat.le_refl _) hgood (Nat.le_trans hB hbw.size) (Fo.In.below (World.drewN_below _ _ 1) _ _ hf) (HDM.out.below ((hbw.trans (World.drewN_below _ _ 1)).mono hB)) (HC0.out.below ((hbw.trans (World.drewN_below _ _ 1)).mono hB)))
  generalize ps[i] = p at *
  have e5 := hr 5 _ rfl
  have e6 := hr 6 _ rfl
  have e7 := hr 7 _ rfl
  have e8 := hr 8 _ rfl
  have e9 := hr 9 _ rfl
  have HAP := Lib.hid hap
  have HRW := Lib.hid hrow
  have HR0 := Lib.hid hr0
  have i0 : (0 : Int) ≤ (i : Int) := Int.natCast_nonneg _
  have i1 : (i : Int) < (ps.length : Int) := by omega
  have HLEN := Lib.hid hlen
  generalize valF d c [] p.cond = vv at *
  clear hd hp hc hr hf he hzz hbw K0 hap hrow hr0 hlen hcs hgood hhv hfit hcz hlt_ hsz
  go_enter Tryz.func31, Tryz.ntmps31
  go_upto_region 1 with (fail)
  generalize (w.alloc (.cells #[.slice ad d.length cd, .slice (some ⟨b, off, none⟩) ps.length cp, .slice asn ns cs] 28)) = wb at *
  obtain ⟨x0, x1, x2⟩ := HX.out
  refine wp_region_still_tail 9 (by kernel_rfl) (by kernel_rfl) ?_
  simp only [List.take_succ_cons, List.take_zero, List.drop_succ_cons, List.drop_zero]
  iterate 9 still_step
  refine wpStill_nil ?_
  change wpList _ _ _ _ _ wb.drew
  cases vv with
  | false =>
    have HS : Hid (apA d ps c (rowsOf ps) i = false) := by show _ = _; rw [HAP.out]; rfl
    go_wp2_with (go_at_call 51; refine CV.out.mono ?_; rintro e w8 ⟨rfl, hb8⟩; have HB8 := Lib.hid (HBW.out.trans (((World.drewN_below wb.heap.size wb 1).trans hb8).mono (by omega))); clear hb8)
    go_ret
    exact ⟨ret_bool HS.out.symm, HB8.out⟩
  | true =>
    have HS : Hid (apA d ps c (rowsOf ps) i = !((List.range ps.length).any (exAp ps (apA d ps c (rowsOf ps)) p.id))) := by show _ = _; rw [HAP.out]; rfl
    clear e5 e6 e7 e8 e9 HAP
    go_wp2_with (go_at_call 51; refine CV.out.mono ?_; rintro e w8 ⟨rfl, hb8⟩; have HB8 := Lib.hid (HBW.out.trans (((World.drewN_below wb.heap.size wb 1).trans hb8).mono (by omega))); have HX8 := Lib.hid (l3_up HX.out ((World.drewN_below wb.heap.size wb 1).trans hb8) (by omega)); have hz8 : wb.heap.size ≤ w8.heap.size := hb8.size; clear hb8)
    clear x0 x1 x2
    go_loopw [7] (fun kv wr => ∃ k : Nat, k ≤ ps.length ∧ kv = .int .i64 k ∧ Hid ((List.range k).any (exAp ps (apA d ps c (rowsOf ps)) p.id) = false) ∧ Hid (Below w.heap.size w wr) ∧ w.heap.size < wr.heap.size ∧ Hid (L3 wr w.heap.size (.slice ad d.length cd) (.slice (some ⟨b, off, none⟩) ps.length cp) (.slice asn ns cs))) (fun kv _ => ps.length - (intOf kv).toNat)
    case atStart => exact ⟨0, Nat.zero_le _, rfl, rfl, HB8, by omega, HX8⟩
    case round =>
      obtain ⟨k, hk, rfl, hin, hbr, hsr, hxx⟩ := hrel
      obtain ⟨y0, y1, y2⟩ := hxx.out
      by_cases hlt : k < ps.length
      · obtain ⟨_, hbB2, ak2, ck2, ae2, ce2, hr2, _, he2, _⟩ := SlIn.get (HP.out.below PvR.kept (hbr.out.mono hB)) k hlt
        have ek := hr2 10 _ rfl
        have ei := HR0.out wr hbr.out
        have hra : (List.range (k + 1)).any (exAp ps (apA d ps c (rowsOf ps)) p.id) = exAp ps (apA d ps c (rowsOf ps)) p.id k := by rw [List.range_succ, List.any_append, hin.out, List.any_cons, List.any_nil]; simp
        have hgd := getD_map hlt
        have hxd : exAp ps (apA d ps c (rowsOf ps)) p.id k = (inB ((ps.map Pv.except).getD k []) p.id && apA d ps c (rowsOf ps) k) := rfl
        have hrw := HRW.out k hlt
        rw [hgd] at hxd hrw
        have hno : exAp ps (apA d ps c (rowsOf ps)) p.id k = true → apA d ps c (rowsOf ps) i = false := fun h => by
          rw [HS.out, show (List.range ps.length).any (exAp ps (apA d ps c (rowsOf ps)) p.id) = true from List.any_eq_true.2 ⟨k, List.mem_range.2 hlt, h⟩]; rfl
        have hEE := StrsIn.below (World.drewN_below B wr 1) he2
        generalize ps[k].except = pe at *
        have HRA := Lib.hid hra
        have HNO := Lib.hid hno
        have HXD := Lib.hid hxd
        have HKB := hbr
        have HXX := hxx
        have k0 : (0 : Int) ≤ (k : Int) := Int.natCast_nonneg _
        have k1 : (k : Int) < (ps.length : Int) := by omega
        generalize exAp ps (apA d ps c (rowsOf ps)) p.id k = xx at *
        cases hxe : inB pe p.id with
        | false =>
          have CE := Lib.hid (in_q2 (W := wr.drew) hEE hxe)
          have HT2 := Lib.hid (show (List.range (k + 1)).any (exAp ps (apA d ps c (rowsOf ps)) p.id) = false by rw [HRA.out, HXD.out, hxe]; rfl)
          clear hr2 he2 hra hgd hxd hrw hno hEE hin hbr hxx hxe
          go_wp2
          (refine wp_region_still_tail 17 (by kernel_rfl) (by kernel_rfl) ?_; simp only [List.take_succ_cons, List.take_zero, List.drop_succ_cons, List.drop_zero]; (iterate 12 still_step); still_call CE.out; refine BStill.out (l := _) ?_)
          (refine bStill_move ?hw (.tmp 38) rfl (.bool false) ?hv ?_; (case hw => kernel_rfl); (case hv => kernel_rfl); simp only [Act.put, List.setIfInBounds_toArray, List.set_cons_zero, List.set_cons_succ])
          iterate 3 (refine bStill_skip ?hw ?_; (case hw => kernel_rfl); simp only [Act.put, List.setIfInBounds_toArray, List.set_cons_zero, List.set_cons_succ])
          refine bStill_nil ?_
          change wpList _ _ _ _ _ wr.drew
          go_wp2
          go_roundw
          case rel => exact ⟨k + 1, by omega, by go_num, HT2, Lib.hid (HKB.out.trans (World.drewN_below _ _ 1)), by simpa using hsr, HXX⟩
          case measure => simp [intOf]; omega
        | true =>
          have CE := Lib.hid (in_q2 (W := wr.drew) hEE hxe)
          have CK := Lib.hid (IH.out k _ _ wr.drew B (by have := hrw hxe; omega) hlt (Nat.le_trans hB hbr.out.size) (HL0.out.below ((hbr.out.trans (World.drewN_below _ _ 1)).mono hB)) (HC0.out.below ((hbr.out.trans (World.drewN_below _ _ 1)).mono hB)))
          have HXE := Lib.hid (HXD.out.trans (by rw [hxe, Bool.true_and]))
          clear hr2 he2 hra hgd hxd hrw hno hEE hin hbr hxx hxe HXD
          generalize apA d ps c (rowsOf ps) k = ak9 at *
          cases ak9 with
          | true =>
            have HS9 := Lib.hid (HNO.out HXE.out)
            go_wp2
            (refine wp_region_still_tail 17 (by kernel_rfl) (by kernel_rfl) ?_; simp only [List.take_succ_cons, List.take_zero, List.drop_succ_cons, List.drop_zero]; (iterate 12 still_step); still_call CE.out; refine BStill.out (l := _) ?_)
            (refine bStill_move ?hw (.tmp 38) rfl (.bool true) ?hv ?_; (case hw => kernel_rfl); (case hv => kernel_rfl); simp only [Act.put, List.setIfInBounds_toArray, List.set_cons_zero, List.set_cons_succ])
            (refine bStill_load ?hw 28 (.tmp 3) rfl (⟨w.heap.size, 0, none⟩) ?hx (.agg #[.slice ad d.length cd, .slice (some ⟨b, off, none⟩) ps.length cp, .slice asn ns cs]) (load_law HXX.out) ?_; (case hw => kernel_rfl); (case hx => kernel_rfl); simp only [Act.put, List.setIfInBounds_toArray, List.set_cons_zero, List.set_cons_succ])
            (refine bStill_move ?hw (.tmp 7) rfl (.int .i64 k) ?hv ?_; (case hw => kernel_rfl); (case hv => kernel_rfl); simp only [Act.put, List.setIfInBounds_toArray, List.set_cons_zero, List.set_cons_succ])
            (refine bStill_move ?hw (.tmp 2) rfl (.slice ac c.length cc) ?hv ?_; (case hw => kernel_rfl); (case hv => kernel_rfl); simp only [Act.put, List.setIfInBounds_toArray, List.set_cons_zero, List.set_cons_succ])
            refine bStill_nil ?_
            change wpList _ _ _ _ _ wr.drew
            go_wp2_with (go_at_call 31; refine CK.out.mono ?_; rintro e w9 ⟨rfl, hb9⟩; have HB9 := Lib.hid (HKB.out.trans (((World.drewN_below wr.heap.size wr 1).trans hb9).mono (by omega))); clear hb9)
            go_ret
            exact ⟨ret_bool HS9.out.symm, HB9.out⟩
          | false =>
            have HT2 := Lib.hid (HRA.out.trans HXE.out)
            go_wp2
            (refine wp_region_still_tail 17 (by kernel_rfl) (by kernel_rfl) ?_; simp only [List.take_succ_cons, List.take_zero, List.drop_succ_cons, List.drop_zero]; (iterate 12 still_step); still_call CE.out; refine BStill.out (l := _) ?_)
            (refine bStill_move ?hw (.tmp 38) rfl (.bool true) ?hv ?_; (case hw => kernel_rfl); (case hv => kernel_rfl); simp only [Act.put, List.setIfInBounds_toArray, List.set_cons_zero, List.set_cons_succ])
            (refine bStill_load ?hw 28 (.tmp 3) rfl (⟨w.heap.size, 0, none⟩) ?hx (.agg #[.slice ad d.length cd, .slice (some ⟨b, off, none⟩) ps.length cp, .slice asn ns cs]) (load_law HXX.out) ?_; (case hw => kernel_rfl); (case hx => kernel_rfl); simp only [Act.put, List.setIfInBounds_toArray, List.set_cons_zero, List.set_cons_succ])
            (refine bStill_move ?hw (.tmp 7) rfl (.int .i64 k) ?hv ?_; (case hw => kernel_rfl); (case hv => kernel_rfl); simp only [Act.put, List.setIfInBounds_toArray, List.set_cons_zero, List.set_cons_succ])
            (refine bStill_move ?hw (.tmp 2) rfl (.slice ac c.length cc) ?hv ?_; (case hw => kernel_rfl); (case hv => kernel_rfl); simp only [Act.put, List.setIfInBounds_toArray, List.set_cons_zero, List.set_cons_succ])
            refine bStill_nil ?_
            change wpList _ _ _ _ _ wr.drew
            go_wp2_with (go_at_call 31; refine CK.out.mono ?_; rintro e w9 ⟨rfl, hb9⟩; have HB9 := Lib.hid (HKB.out.trans (((World.drewN_below wr.heap.size wr 1).trans hb9).mono (by omega))); have HX9 := Lib.hid (l3_up HXX.out ((World.drewN_below wr.heap.size wr 1).trans hb9) hsr); have hz9 : wr.heap.size ≤ w9.heap.size := hb9.size; clear hb9)
            go_roundw
            case rel => exact ⟨k + 1, by omega, by go_num, HT2, HB9, by omega, HX9⟩
            case measure => simp [intOf]; omega
      · have HS9 := Lib.hid (show apA d ps c (rowsOf ps) i = true by
          have h1 := hin.out
          rw [show k = ps.length by omega] at h1
          rw [HS.out, h1]; rfl)
        clear hin
        go_wp2
        go_ret
        exact ⟨ret_bool HS9.out.symm, hbr.out⟩
end

theorem refApplied_any (d : List Fa) (ps : List Pv) (c : List Int) (hn : ps.length ≤ 1000) (hsz : ∀ p ∈ ps, p.cond.size ≤ 1000000) (h0 : askE d ps c = 0) (i : Nat) (v cv : Value) (w : World) (B : Nat) (hi : i < ps.length) (hB : B ≤ w.heap.size) (hl : LawIn w B d ps v) (hc : IntsIn w B c cv) :
    Calls Tryz.prog 31 #[v, .int .i64 (i : Int), cv] w fun e w' => e = .returned (.bool (apA d ps c (rowsOf ps) i)) ∧ Below w.heap.size w w' := by
  obtain ⟨_, hl', hcz⟩ := ask_parts h0
  obtain ⟨rk, _, h2⟩ := rank_le (G := edg (rowsOf ps)) hl' hcz
  exact refApplied_step d ps c hn hsz h0 rk h2 (rk i + 1) i v cv w B (Nat.lt_succ_self _) hi hB hl hc

end Go.Proofs.YtihpoecdnchioaaGreatDoor

namespace Go.Proofs.YtihpoecdnchioaaGreatDoor
open Go.RowKit Tj

theorem ask_wrong (d : List Fa) (ps : List Pv) (c : List Int) : askE d ps c = if (properB d ps && fitsD d c) = true then (if (circL ps).length = 0 then 0 else 13) else 1 := by
  unfold askE properB circL
  have hv : fitsD d c = true → validD d = true := fun h => by
    unfold fitsD at h
    simp only [Bool.and_eq_true] at h
    exact h.1.1
  by_cases h1 : okP ps = true
  · by_cases h2 : fitsD d c = true
    · have h3 := hv h2
      cases h4 : ps.any (badF d) with
      | true => simp [h1, h2, h3]
      | false =>
        have e1 : (validD d && okP ps && !false && fitsD d c) = true := by rw [h1, h2, h3]; rfl
        rw [if_pos ⟨h1, h2, rfl⟩, if_pos e1, if_pos h1, List.length_map]
        by_cases h5 : circS (eB (edg (rowsOf ps))) ps.length = []
        · rw [if_pos h5, if_pos (by rw [h5]; rfl)]
        · rw [if_neg h5, if_neg (fun h => h5 (List.length_eq_zero_iff.1 h))]
    · rw [if_neg (fun h => h2 h.2.1), if_neg (fun h => h2 (Bool.and_eq_true _ _ ▸ h).2)]
  · rw [if_neg (fun h => h1 h.1), if_neg]
    intro h
    simp only [Bool.and_eq_true] at h
    exact h1 h.1.1.2

section
/-- the Ids of the first k provisions of which g tells true -/
def idsL (ps : List Pv) (g : Nat → Bool) (k : Nat) : List ByteArray := ((List.range k).filter g).map (idAt ps)
theorem idsL_succ (ps : List Pv) (g : Nat → Bool) (k : Nat) : idsL ps g (k + 1) = idsL ps g k ++ if g k then [idAt ps k] else [] := by
  unfold idsL
  rw [filter_range_succ, List.map_append]
  split <;> rfl
theorem idsL_len (ps : List Pv) (g : Nat → Bool) (k : Nat) : (idsL ps g k).length ≤ k := by
  unfold idsL
  rw [List.length_map]
  have := List.length_filter_le g (List.range k)
  rwa [List.length_range] at this
/-- the circles of the first i provisions -/
def lsC (ps : List Pv) (e : Nat → Nat → Bool) (i : Nat) : List (List ByteArray) := ((List.range i).filter (firstB e ps.length)).map fun j => idsL ps (mutB e ps.length j) ps.length
theorem lsC_succ (ps : List Pv) (e : Nat → Nat → Bool) (i : Nat) : lsC ps e (i + 1) = lsC ps e i ++ if firstB e ps.length i then [idsL ps (mutB e ps.length i) ps.length] else [] := by
  unfold lsC
  rw [filter_range_succ, List.map_append]
  split <;> rfl
theorem lsC_len (ps : List Pv) (e : Nat → Nat → Bool) (i : Nat) : (lsC ps e i).length ≤ i := by
  unfold lsC
  rw [List.length_map]
  have := List.length_filter_le (firstB e ps.length) (List.range i)
  rwa [List.length_range] at this
theorem lsC_all {ps : List Pv} (h : okP ps = true) : circL ps = lsC ps (excB ps) ps.length := by
  rw [← circR_eq]
  unfold circR lsC circS idsL
  rw [if_pos h, List.map_map]
  rfl
/-- the test of being the first, as far as k -/
def fstK (e : Nat → Nat → Bool) (n i k : Nat) : Bool := fw e n i i && (List.range k).all fun j => !mutB e n i j
theorem fstK_succ (e : Nat → Nat → Bool) (n i k : Nat) : fstK e n i (k + 1) = (fstK e n i k && !(fw e n i k && fw e n k i)) := by
  unfold fstK mutB
  rw [List.range_succ, List.all_append, List.all_cons, List.all_nil, Bool.and_true, Bool.and_assoc]

set_option maxRecDepth 100000 in
set_option maxHeartbeats 8000000 in
theorem refCirc_any (d : List Fa) (ps : List Pv) (v : Value) (w : World) (B : Nat) (hn : ps.length ≤ 1000) (hB : B ≤ w.heap.size) (hl : LawIn w B d ps v) :
    Calls Tryz.prog 19 #[v] w fun e w' => ∃ u, e = .returned u ∧ Below w.heap.size w w' ∧ StrssIn w' w'.heap.size (circL ps) u := by
  have HL0 := Lib.hid hl
  obtain ⟨u1, u2, asn, ns, cs, rfl, hd, hp⟩ := hl
  obtain ⟨ad, cd, rfl, d1, d2, _⟩ := SlIn.shape hd
  obtain ⟨ap, cp, rfl, p1, p2, _⟩ := SlIn.shape hp
  unfold maxLen at p2
  have hbw : Below w.heap.size w (w.alloc (.cells #[.slice ad d.length cd, .slice ap ps.length cp, .slice asn ns cs] 28)) := (Below.refl _ _).alloc (Nat.le_refl _) _
  have K0 := Blk.new w 28 #[.slice ad d.length cd, .slice ap ps.length cp, .slice asn ns cs]
  have HX : Hid (L3 (w.alloc (.cells #[.slice ad d.length cd, .slice ap ps.length cp, .slice asn ns cs] 28)) w.heap.size (.slice ad d.length cd) (.slice ap ps.length cp) (.slice asn ns cs)) := ⟨K0.cell 0, K0.cell 1, K0.cell 2⟩
  obtain ⟨x0, x1, x2⟩ := HX.out
  have HBW := Lib.hid hbw
  have HP := Lib.hid hp
  have HDF := Lib.hid (fun W (hb : Below w.heap.size w W) => diff_any d ps _ W B (Nat.le_trans hB hb.size) (HL0.out.below (hb.mono hB)))
  have HRC := Lib.hid (fun W (hb : Below w.heap.size w W) => reach_any d ps _ W B hn (Nat.le_trans hB hb.size) (HL0.out.below (hb.mono hB)))
  obtain ⟨i9, hi9, hx9, hy9, hz9⟩ := info_parts strInfo
  obtain ⟨i1, hi1, hw0, hw1, hw2⟩ := info_parts strsInfo
  clear hd hp hbw K0
  cases hok : okP ps with
  | false =>
    have hcl : circL ps = [] := by unfold circL; rw [hok]; rfl
    rw [hcl]
    rw [hok] at HDF
    clear hok hcl
    go_enter Tryz.func19, Tryz.ntmps19
    go_wp2_with (go_at_call 23; refine (HDF.out _ HBW.out).mono ?_; rintro e w2 ⟨rfl, hb2⟩; have HB2 := Lib.hid (HBW.out.trans (hb2.mono (by simp))); clear hb2)
    go_ret
    exact ⟨.slice none 0 0, rfl, HB2.out, none, 0, rfl, Nat.le_refl _, Nat.zero_le _, fun h => absurd rfl h⟩
  | true =>
    rw [lsC_all hok]
    rw [hok] at HDF
    generalize excB ps = ex at *
    clear hok
    go_enter Tryz.func19, Tryz.ntmps19
    go_wp2_with (first
      | (go_at_call 23; refine (HDF.out _ HBW.out).mono ?_; rintro e w2 ⟨rfl, hb2⟩; obtain ⟨y0, y1, y2⟩ := l3_up HX.out hb2 (by simp); have HX2 := Lib.hid (l3_up HX.out hb2 (by simp)); have HB2 := Lib.hid (HBW.out.trans (hb2.mono (by simp))); have hz2 := hb2.size; simp only [World.size_alloc] at hz2; clear hb2 x0 x1 x2)
      | (go_at_call 25; refine (HRC.out _ HB2.out).mono ?_; rintro e w3 ⟨rfl, ⟨wg, hgr⟩, hb3⟩; have HX3 := Lib.hid (l3_up HX2.out hb3 (by omega)); have HB3 := Lib.hid (HB2.out.trans (hb3.mono (by omega))); have hz3 := hgr.sz; have HG := Lib.hid hgr; clear hb3 hgr y0 y1 y2))
    have HCE : Hid (∀ W, Below w3.heap.size w3 W → ∀ j k, j < ps.length → k < ps.length → W.cell? ⟨w2.heap.size + 1, j, none⟩ = some (.slice (some ⟨w2.heap.size + 2 + j, 0, none⟩) ps.length ps.length) ∧ W.cell? ⟨w2.heap.size + 2 + j, k, none⟩ = some (.bool (fw ex ps.length j k))) := fun W hb j k hj hk =>
      ⟨(hb.cell (p := ⟨w2.heap.size + 1, j, none⟩) (by show w2.heap.size + 1 < _; omega)).trans (HG.out.row hj (Nat.le_refl _)), (hb.cell (p := ⟨w2.heap.size + 2 + j, k, none⟩) (by show w2.heap.size + 2 + j < _; omega)).trans (HG.out.cell hj hk)⟩
    clear HG HRC HDF
    go_loopw [4, 5] (fun uo iv wr => ∃ (i : Nat) (vals : List Value), i ≤ ps.length ∧ iv = .int .i64 i ∧ Hid (RowsS wr w3.heap.size (lsC ps ex i) uo vals) ∧ Hid (Below w3.heap.size w3 wr)) (fun _ iv _ => ps.length - (intOf iv).toNat)
    case atStart => exact ⟨0, [], Nat.zero_le _, rfl, ⟨⟨rfl, .inl ⟨rfl, rfl⟩⟩, rfl, fun k hk => by cases hk⟩, Below.refl _ _⟩
    case round =>
      rename World => wq
      obtain ⟨i, vals, hi, rfl, hrow, hbr⟩ := hrel
      obtain ⟨y0, y1, y2⟩ := l3_up HX3.out hbr.out (by omega)
      have hll := lsC_len ps ex i
      have hvl := hrow.out.len
      have hrs := hbr.out.size
      by_cases hlt : i < ps.length
      · have hls := lsC_succ ps ex i
        have HLS := Lib.hid hls
        obtain ⟨ri, cii⟩ := HCE.out wq hbr.out i i hlt hlt
        have HR := hrow
        have HBR := hbr
        have i0 : (0 : Int) ≤ (i : Int) := Int.natCast_nonneg _
        have i1' : (i : Int) < (ps.length : Int) := by omega
        have hv9 : vals.length ≤ 1000 := by omega
        have h00 : fw ex ps.length i i = fstK ex ps.length i 0 := by unfold fstK; simp
        rw [h00] at cii
        generalize lsC ps ex i = ls at *
        clear hls hrow hbr h00 hvl hll
        go_wp2
        go_loopw [6, 7] (fun fv kv wr => ∃ k : Nat, k ≤ i ∧ kv = .int .i64 k ∧ fv = .bool (fstK ex ps.length i k) ∧ wr = wq) (fun _ kv _ => i - (intOf kv).toNat)
        case atStart => exact ⟨0, Nat.zero_le _, rfl, rfl, rfl⟩
        case round =>
          obtain ⟨k, hk, rfl, hfv, hww⟩ := hrel
          obtain rfl : wq = wr := hww.symm
          subst hfv
          by_cases hki : k < i
          · have hkn : k < ps.length := by omega
            obtain ⟨_, cik⟩ := HCE.out wq HBR.out i k hlt hkn
            obtain ⟨rk, cki⟩ := HCE.out wq HBR.out k i hkn hlt
            have HF := Lib.hid (fstK_succ ex ps.length i k)
            have k0 : (0 : Int) ≤ (k : Int) := Int.natCast_nonneg _
            have k1 : (k : Int) < (ps.length : Int) := by omega
            have k2 : (k : Int) < (i : Int) := by omega
            generalize fstK ex ps.length i k = fx at *
            generalize fw ex ps.length i k = f1 at *
            generalize fw ex ps.length k i = f2 at *
            clear cii
            cases fx <;> cases f1 <;> cases f2
            all_goals
              go_wp2
              go_roundw
              case rel => exact ⟨k + 1, by omega, by go_num, by rw [HF.out]; rfl, by trivial⟩
              case measure => simp [intOf]; omega
          · have hkn : k = i := by omega
            subst hkn
            have hfi : fstK ex ps.length k k = firstB ex ps.length k := rfl
            rw [hfi]
            clear cii hk hki hfi
            cases hfb : firstB ex ps.length k with
            | false =>
              have HT := Lib.hid (show lsC ps ex (k + 1) = ls by rw [HLS.out, hfb]; simp)
              clear hfb HLS
              go_wp2
              go_roundw
              case rel => exact ⟨k + 1, vals, by omega, by go_num, by rw [HT.out]; exact HR, HBR⟩
              case measure => simp [intOf]; omega
            | true =>
              have HT := Lib.hid (show lsC ps ex (k + 1) = ls ++ [idsL ps (mutB ex ps.length k) ps.length] by rw [HLS.out, hfb]; simp)
              clear hfb HLS ri
              go_wp2
              go_loopw [8, 9] (fun io jv wr => ∃ j : Nat, j ≤ ps.length ∧ jv = .int .i64 j ∧ Hid (wr.ownsRow wq.heap.size 9 1 io (idsL ps (mutB ex ps.length k) j).length ((idsL ps (mutB ex ps.length k) j).map Value.string)) ∧ Hid (Below wq.heap.size wq wr)) (fun _ jv _ => ps.length - (intOf jv).toNat)
              case atStart => exact ⟨0, Nat.zero_le _, rfl, ⟨rfl, .inl ⟨rfl, rfl⟩⟩, Below.refl _ _⟩
              case round =>
                obtain ⟨j, hj, rfl, hio, hbs⟩ := hrel
                have hbj : Below w3.heap.size w3 wr := HBR.out.trans (hbs.out.mono hrs)
                by_cases hjl : j < ps.length
                · obtain ⟨rk, ckj⟩ := HCE.out wr hbj k j hlt hjl
                  obtain ⟨rj, cjk⟩ := HCE.out wr hbj j k hjl hlt
                  obtain ⟨s0, s1, s2⟩ := l3_up HX3.out hbj (by omega)
                  obtain ⟨b, off, rfl, hbB, ak, ck, ae, ce, hr, _⟩ := SlIn.at (HP.out.below PvR.kept ((HB3.out.trans (hbj.mono (by omega))).mono hB)) j hjl
                  have ec := hr 0 _ rfl
                  rw [Nat.add_zero] at ec
                  have hidl := idsL_succ ps (mutB ex ps.length k) j
                  rw [idAt_eq hjl] at hidl
                  have hmu : mutB ex ps.length k j = (fw ex ps.length k j && fw ex ps.length j k) := rfl
                  rw [hmu] at hidl
                  have hll := idsL_len ps (mutB ex ps.length k) j
                  generalize idsL ps (mutB ex ps.length k) j = L at *
                  generalize ps[j].id = id at *
                  generalize fw ex ps.length k j = f1 at *
                  generalize fw ex ps.length j k = f2 at *
                  have HIL := Lib.hid hidl
                  have HO := hio
                  have HBZ := hbs
                  have j0 : (0 : Int) ≤ (j : Int) := Int.natCast_nonneg _
                  have j1 : (j : Int) < (ps.length : Int) := by omega
                  have k0 : (0 : Int) ≤ (k : Int) := Int.natCast_nonneg _
                  have k1 : (k : Int) < (ps.length : Int) := by omega
                  have hzs := hbs.out.size
                  clear hidl hmu hr hio hbs hbj
                  cases f1 with
                  | false =>
                    have HT2 := Lib.hid (show idsL ps (mutB ex ps.length k) (j + 1) = L by rw [HIL.out]; simp)
                    clear HIL
                    go_wp2
                    go_roundw
                    case rel => exact ⟨j + 1, by omega, by go_num, by rw [HT2.out]; exact HO, HBZ⟩
                    case measure => simp [intOf]; omega
                  | true =>
                    cases f2 with
                    | false =>
                      have HT2 := Lib.hid (show idsL ps (mutB ex ps.length k) (j + 1) = L by rw [HIL.out]; simp)
                      clear HIL
                      go_wp2
                      go_roundw
                      case rel => exact ⟨j + 1, by omega, by go_num, by rw [HT2.out]; exact HO, HBZ⟩
                      case measure => simp [intOf]; omega
                    | true =>
                      have HT2 := Lib.hid (show idsL ps (mutB ex ps.length k) (j + 1) = L ++ [id] by rw [HIL.out]; simp)
                      clear HIL
                      go_wp2_with (at_builtin; refine wpList_append_own_at _ rfl _ _ 32 rfl wq.heap.size 9 i9 _ 1 16 Tryz.underlying32 hi9 hx9 hy9 hz9 rfl (by decide) _ L.length _ rfl (HO.out.alloc _) ⟨wr.heap.size, 0, none⟩ 1 1 [.string id] rfl rfl (cell_one_new _ _ _) (by simp [Value.oneCell']) (by unfold maxLen; omega) (by omega) (by simp; omega) ?_; intro v9 w9 hown9 hgrow9 hnil9 hat9; have HO9 : Hid (w9.ownsRow wq.heap.size 9 1 v9 (L ++ [id]).length ((L ++ [id]).map Value.string)) := (by show World.ownsRow _ _ _ _ _ _ _; rw [List.length_append, List.map_append]; exact hown9); have HB9 : Hid (Below wq.heap.size wq w9) := (HBZ.out.alloc HBZ.out.size _).grown hgrow9 (Nat.le_trans HBZ.out.size (by simp)) (fun g e => (HO.out.lt g e).1); clear hown9 hgrow9 hnil9 hat9)
                      go_roundw
                      case rel => exact ⟨j + 1, by omega, by go_num, by rw [HT2.out]; exact HO9, HB9⟩
                      case measure => simp [intOf]; omega
                · have hjn : j = ps.length := by omega
                  subst hjn
                  have HIO := Lib.hid (own_base hio.out hrs)
                  obtain ⟨s0, s1, s2⟩ := l3_up HX3.out hbj (by omega)
                  have HBS := hbs
                  have HRS := Lib.hid (HR.out.below hbs.out)
                  have hss := hbs.out.size
                  clear hio hbs hj hjl
                  obtain ⟨ua, un, uc, rfl⟩ : ∃ ua un uc, u8 = .slice ua un uc := by
                    rcases HIO.out.2 with ⟨h0, _⟩ | ⟨g', cap, cur, h0, _⟩
                    · exact ⟨_, _, _, h0⟩
                    · exact ⟨_, _, _, h0⟩
                  generalize idsL ps (mutB ex ps.length k) ps.length = L at *
                  go_wp2_with (at_builtin; refine wpList_append_own_at _ rfl _ _ 39 rfl w3.heap.size 32 i1 _ 1 24 Tryz.underlying39 hi1 hw0 hw1 hw2 rfl (by decide) _ vals.length vals rfl (HRS.out.own.alloc _) ⟨wr.heap.size, 0, none⟩ 1 1 [.slice ua un uc] rfl rfl (cell_one_new _ _ _) (by simp [Value.oneCell']) (by unfold maxLen; omega) (by omega) (by simp; omega) ?_; intro v9 w9 hown9 hgrow9 hnil9 hat9; have HR9 := Lib.hid (HRS.out.push HIO.out ((Below.refl _ _).alloc (Nat.le_refl _) _) hown9 hgrow9); have HB9 : Hid (Below w3.heap.size w3 w9) := (((HBR.out.trans (HBS.out.mono hrs)).alloc (by omega) _).grown hgrow9 (by simp; omega) (fun g e => own_ge HRS.out.own g e)); clear hown9 hgrow9 hnil9 hat9)
                  go_roundw
                  case rel => exact ⟨k + 1, vals ++ [.slice ua un uc], by omega, by go_num, by rw [HT.out]; exact HR9, HB9⟩
                  case measure => simp [intOf]; omega
      · have hkn : i = ps.length := by omega
        subst hkn
        have HR := hrow
        have HBR := hbr
        clear hrow hbr hi hlt
        go_wp2
        go_ret
        exact ⟨_, rfl, HB3.out.trans (HBR.out.mono (by omega)), HR.out.strss⟩

set_option maxRecDepth 100000 in
set_option maxHeartbeats 4000000 in
theorem refWrong_any (d : List Fa) (ps : List Pv) (c : List Int) (v cv : Value) (w : World) (B : Nat) (hn : ps.length ≤ 1000) (hsz : ∀ p ∈ ps, p.cond.size ≤ 1000000) (hB : B ≤ w.heap.size) (hl : LawIn w B d ps v) (hc : IntsIn w B c cv) :
    Calls Tryz.prog 30 #[v, cv] w fun e w' => e = .returned (.int .i64 (askE d ps c)) ∧ Below w.heap.size w w' := by
  have HL0 := Lib.hid hl
  have HC0 := Lib.hid hc
  obtain ⟨u1, u2, asn, ns, cs, rfl, hd, hp⟩ := hl
  obtain ⟨ad, cd, rfl, d1, d2, _⟩ := SlIn.shape hd
  obtain ⟨ap, cp, rfl, p1, p2, _⟩ := SlIn.shape hp
  obtain ⟨ac, cc, rfl, c1, c2, _⟩ := SlIn.shape hc
  have hbw : Below w.heap.size w (w.alloc (.cells #[.slice ad d.length cd, .slice ap ps.length cp, .slice asn ns cs] 28)) := (Below.refl _ _).alloc (Nat.le_refl _) _
  have K0 := Blk.new w 28 #[.slice ad d.length cd, .slice ap ps.length cp, .slice asn ns cs]
  have HX : Hid (L3 (w.alloc (.cells #[.slice ad d.length cd, .slice ap ps.length cp, .slice asn ns cs] 28)) w.heap.size (.slice ad d.length cd) (.slice ap ps.length cp) (.slice asn ns cs)) := ⟨K0.cell 0, K0.cell 1, K0.cell 2⟩
  obtain ⟨x0, x1, x2⟩ := HX.out
  have HBW := Lib.hid hbw
  have HDM : Hid (DomIn w B d (.agg #[.slice ad d.length cd])) := ⟨_, rfl, hd⟩
  have HPR := Lib.hid (fun W (hb : Below w.heap.size w W) => refProper_any d ps _ W B hn (Nat.le_trans hB hb.size) (HL0.out.below (hb.mono hB)) hsz)
  have HFT := Lib.hid (fun W (hb : Below w.heap.size w W) => refFits_any d c _ _ W B (Nat.le_trans hB hb.size) (HDM.out.below (hb.mono hB)) (HC0.out.below (hb.mono hB)))
  have HCI := Lib.hid (fun W (hb : Below w.heap.size w W) => refCirc_any d ps _ W B hn (Nat.le_trans hB hb.size) (HL0.out.below (hb.mono hB)))
  have HR := Lib.hid (ask_wrong d ps c)
  generalize askE d ps c = R at *
  clear hd hp hc hbw K0 hsz
  cases hpr : properB d ps with
  | false =>
    rw [hpr] at HPR HR
    have HS := Lib.hid (show R = 1 by rw [HR.out]; rfl)
    clear hpr HR
    go_enter Tryz.func30, Tryz.ntmps30
    go_wp2_with (go_at_call 49; refine (HPR.out _ HBW.out).mono ?_; rintro e w2 ⟨rfl, hb2⟩; have HB2 := Lib.hid (HBW.out.trans (hb2.mono (by simp))); clear hb2)
    go_ret
    exact ⟨ret_int HS.out.symm, HB2.out⟩
  | true =>
    rw [hpr] at HPR HR
    cases hft : fitsD d c with
    | false =>
      rw [hft] at HFT HR
      have HS := Lib.hid (show R = 1 by rw [HR.out]; rfl)
      clear hpr hft HR
      go_enter Tryz.func30, Tryz.ntmps30
      go_wp2_with (first
        | (go_at_call 49; refine (HPR.out _ HBW.out).mono ?_; rintro e w2 ⟨rfl, hb2⟩; obtain ⟨y0, y1, y2⟩ := l3_up HX.out hb2 (by simp); have HX2 := Lib.hid (l3_up HX.out hb2 (by simp)); have HB2 := Lib.hid (HBW.out.trans (hb2.mono (by simp))); have hz2 := hb2.size; simp only [World.size_alloc] at hz2; clear hb2 x0 x1 x2)
        | (go_at_call 50; refine (HFT.out _ HB2.out).mono ?_; rintro e w3 ⟨rfl, hb3⟩; obtain ⟨z0, z1, z2⟩ := l3_up HX2.out hb3 (by omega); have HB3 := Lib.hid (HB2.out.trans (hb3.mono (by omega))); have hz3 := hb3.size; clear hb3 y0 y1 y2))
      go_ret
      exact ⟨ret_int HS.out.symm, HB3.out⟩
    | true =>
      rw [hft] at HFT HR
      have HS := Lib.hid (show R = if (circL ps).length = 0 then 0 else 13 by rw [HR.out]; rfl)
      clear hpr hft HR
      generalize circL ps = cl at *
      by_cases hz : cl.length = 0
      · have gz : decide ((0 : Int) < (cl.length : Int)) = false := decide_eq_false (by omega)
        have gz2 : ¬ 0 < cl.length := by omega
        have HS2 := Lib.hid (show R = 0 by rw [HS.out, if_pos hz])
        clear hz
        go_enter Tryz.func30, Tryz.ntmps30
        go_wp2_with (first
          | (go_at_call 49; refine (HPR.out _ HBW.out).mono ?_; rintro e w2 ⟨rfl, hb2⟩; obtain ⟨y0, y1, y2⟩ := l3_up HX.out hb2 (by simp); have HX2 := Lib.hid (l3_up HX.out hb2 (by simp)); have HB2 := Lib.hid (HBW.out.trans (hb2.mono (by simp))); have hz2 := hb2.size; simp only [World.size_alloc] at hz2; clear hb2 x0 x1 x2)
          | (go_at_call 50; refine (HFT.out _ HB2.out).mono ?_; rintro e w3 ⟨rfl, hb3⟩; obtain ⟨z0, z1, z2⟩ := l3_up HX2.out hb3 (by omega); have HB3 := Lib.hid (HB2.out.trans (hb3.mono (by omega))); have hz3 := hb3.size; clear hb3 y0 y1 y2)
          | (go_at_call 19; refine (HCI.out _ HB3.out).mono ?_; rintro e w4 ⟨u4, rfl, hb4, hu4⟩; obtain ⟨ua, uc, rfl, _⟩ := SlIn.shape hu4; have HB4 := Lib.hid (HB3.out.trans (hb4.mono (by omega))); clear hb4 hu4))
        go_ret
        exact ⟨ret_int HS2.out.symm, HB4.out⟩
      · have gz : decide ((0 : Int) < (cl.length : Int)) = true := decide_eq_true (by omega)
        have gz2 : 0 < cl.length := by omega
        have HS2 := Lib.hid (show R = 13 by rw [HS.out, if_neg hz])
        clear hz
        go_enter Tryz.func30, Tryz.ntmps30
        go_wp2_with (first
          | (go_at_call 49; refine (HPR.out _ HBW.out).mono ?_; rintro e w2 ⟨rfl, hb2⟩; obtain ⟨y0, y1, y2⟩ := l3_up HX.out hb2 (by simp); have HX2 := Lib.hid (l3_up HX.out hb2 (by simp)); have HB2 := Lib.hid (HBW.out.trans (hb2.mono (by simp))); have hz2 := hb2.size; simp only [World.size_alloc] at hz2; clear hb2 x0 x1 x2)
          | (go_at_call 50; refine (HFT.out _ HB2.out).mono ?_; rintro e w3 ⟨rfl, hb3⟩; obtain ⟨z0, z1, z2⟩ := l3_up HX2.out hb3 (by omega); have HB3 := Lib.hid (HB2.out.trans (hb3.mono (by omega))); have hz3 := hb3.size; clear hb3 y0 y1 y2)
          | (go_at_call 19; refine (HCI.out _ HB3.out).mono ?_; rintro e w4 ⟨u4, rfl, hb4, hu4⟩; obtain ⟨ua, uc, rfl, _⟩ := SlIn.shape hu4; have HB4 := Lib.hid (HB3.out.trans (hb4.mono (by omega))); clear hb4 hu4))
        go_ret
        exact ⟨ret_int HS2.out.symm, HB4.out⟩

theorem strs_none (W : World) (n : Nat) : StrsIn W n [] (.slice none 0 0) := ⟨none, 0, rfl, Nat.le_refl _, Nat.zero_le _, fun e => absurd rfl e⟩

set_option maxRecDepth 100000 in
set_option maxHeartbeats 4000000 in
theorem refApplies_any (d : List Fa) (ps : List Pv) (c : List Int) (v cv : Value) (w : World) (B : Nat) (hn : ps.length ≤ 1000) (hsz : ∀ p ∈ ps, p.cond.size ≤ 1000000) (hB : B ≤ w.heap.size) (hl : LawIn w B d ps v) (hc : IntsIn w B c cv) :
    Calls Tryz.prog 13 #[v, cv] w fun e w' => ∃ u, e = .returned (.tuple #[u, .int .i64 (askE d ps c)]) ∧ Below w.heap.size w w' ∧ StrsIn w' w'.heap.size (if askE d ps c = 0 then appliedL d ps c else []) u := by
  have HL0 := Lib.hid hl
  have HC0 := Lib.hid hc
  obtain ⟨u1, u2, asn, ns, cs, rfl, hd, hp⟩ := hl
  obtain ⟨ad, cd, rfl, d1, d2, _⟩ := SlIn.shape hd
  obtain ⟨ap, cp, rfl, p1, p2, _⟩ := SlIn.shape hp
  obtain ⟨ac, cc, rfl, c1, c2, _⟩ := SlIn.shape hc
  unfold maxLen at p2
  have hbw : Below w.heap.size w (w.alloc (.cells #[.slice ad d.length cd, .slice ap ps.length cp, .slice asn ns cs] 28)) := (Below.refl _ _).alloc (Nat.le_refl _) _
  have K0 := Blk.new w 28 #[.slice ad d.length cd, .slice ap ps.length cp, .slice asn ns cs]
  have HX : Hid (L3 (w.alloc (.cells #[.slice ad d.length cd, .slice ap ps.length cp, .slice asn ns cs] 28)) w.heap.size (.slice ad d.length cd) (.slice ap ps.length cp) (.slice asn ns cs)) := ⟨K0.cell 0, K0.cell 1, K0.cell 2⟩
  obtain ⟨x0, x1, x2⟩ := HX.out
  have HBW := Lib.hid hbw
  have HP := Lib.hid hp
  have HWR := Lib.hid (fun W (hb : Below w.heap.size w W) => refWrong_any d ps c _ _ W B hn hsz (Nat.le_trans hB hb.size) (HL0.out.below (hb.mono hB)) (HC0.out.below (hb.mono hB)))
  have HAP := Lib.hid (fun (h0 : askE d ps c = 0) k (hk : k < ps.length) W (hb : Below w.heap.size w W) => refApplied_any d ps c hn hsz h0 k _ _ W B hk (Nat.le_trans hB hb.size) (HL0.out.below (hb.mono hB)) (HC0.out.below (hb.mono hB)))
  have HAL : Hid (appliedL d ps c = idsL ps (apA d ps c (rowsOf ps)) ps.length) := rfl
  obtain ⟨i9, hi9, hx9, hy9, hz9⟩ := info_parts strInfo
  clear hd hp hc hbw K0 hsz
  by_cases h0 : askE d ps c = 0
  · have HAP2 := Lib.hid (HAP.out h0)
    rw [if_pos h0, h0]
    rw [h0] at HWR
    generalize apA d ps c (rowsOf ps) = g at *
    generalize appliedL d ps c = al at *
    clear HAP h0
    go_enter Tryz.func13, Tryz.ntmps13
    go_wp2_with (go_at_call 30; refine (HWR.out _ HBW.out).mono ?_; rintro e w2 ⟨rfl, hb2⟩; obtain ⟨y0, y1, y2⟩ := l3_up HX.out hb2 (by simp); have HX2 := Lib.hid (l3_up HX.out hb2 (by simp)); have HB2 := Lib.hid (HBW.out.trans (hb2.mono (by simp))); have hz2 := hb2.size; simp only [World.size_alloc] at hz2; clear hb2 x0 x1 x2)
    clear y0 y1 y2
    go_loopw [7, 8] (fun vo kv wr => ∃ k : Nat, k ≤ ps.length ∧ kv = .int .i64 k ∧ Hid (wr.ownsRow w2.heap.size 9 1 vo (idsL ps g k).length ((idsL ps g k).map Value.string)) ∧ Hid (Below w2.heap.size w2 wr)) (fun _ kv _ => ps.length - (intOf kv).toNat)
    case atStart => exact ⟨0, Nat.zero_le _, rfl, ⟨rfl, .inl ⟨rfl, rfl⟩⟩, Below.refl _ _⟩
    case round =>
      rename World => wq
      obtain ⟨k, hk, rfl, hrow, hbr⟩ := hrel
      obtain ⟨y0, y1, y2⟩ := l3_up HX2.out hbr.out (by omega)
      by_cases hlt : k < ps.length
      · have hbq := HB2.out.trans (hbr.out.mono (by omega))
        have hidl := idsL_succ ps g k
        have hid := idAt_eq hlt
        have hll := idsL_len ps g k
        have CA := Lib.hid (HAP2.out k hlt wq hbq)
        have hcell : ∀ W, Below w.heap.size w W → ∃ b off, ap = some ⟨b, off, none⟩ ∧ W.cell? ⟨b, off + k * 23, none⟩ = some (.string ps[k].id) := fun W hb => by
          obtain ⟨b, off, rfl, hbB, ak, ck, ae, ce, hr, _⟩ := SlIn.at (HP.out.below PvR.kept (hb.mono hB)) k hlt
          have := hr 0 _ rfl
          rw [Nat.add_zero] at this
          exact ⟨b, off, rfl, this⟩
        generalize idsL ps g k = L at *
        generalize ps[k].id = id at *
        rw [hid] at hidl
        have HIL := Lib.hid hidl
        have HCE := Lib.hid hcell
        have HO0 := hrow
        have HBR := hbr
        have hqz := hbr.out.size
        have k0 : (0 : Int) ≤ (k : Int) := Int.natCast_nonneg _
        have k1 : (k : Int) < (ps.length : Int) := by omega
        clear hidl hid hcell hrow hbr
        cases hg : g k with
        | false =>
          rw [hg] at CA
          have HT := Lib.hid (show idsL ps g (k + 1) = L by rw [HIL.out, hg]; simp)
          clear hg HIL
          go_wp2_with (go_at_call 31; refine CA.out.mono ?_; rintro e wz ⟨rfl, hbz⟩; have HO := Lib.hid (own_under HO0.out hbz); have HBZ : Hid (Below w2.heap.size w2 wz) := HBR.out.trans (hbz.mono hqz); clear hbz)
          go_roundw
          case rel => exact ⟨k + 1, by omega, by go_num, by rw [HT.out]; exact HO, HBZ⟩
          case measure => simp [intOf]; omega
        | true =>
          rw [hg] at CA
          have HT := Lib.hid (show idsL ps g (k + 1) = L ++ [id] by rw [HIL.out, hg]; simp)
          clear hg HIL
          obtain ⟨b, off, rfl, _⟩ := HCE.out wq hbq
          go_wp2_with (first
            | (go_at_call 31; refine CA.out.mono ?_; rintro e wz ⟨rfl, hbz⟩; have HO := Lib.hid (own_under HO0.out hbz); have HBZ : Hid (Below w2.heap.size w2 wz) := HBR.out.trans (hbz.mono hqz); obtain ⟨s0, s1, s2⟩ := l3_up HX2.out HBZ.out (by omega); have ec : wz.cell? ⟨b, off + k * 23, none⟩ = some (.string id) := (by obtain ⟨b2, o2, e2, h2⟩ := HCE.out wz (HB2.out.trans (HBZ.out.mono (by omega))); cases e2; exact h2); have hzz := hbz.size; clear hbz y0 y1 y2)
            | (at_builtin; refine wpList_append_own_at _ rfl _ _ 32 rfl w2.heap.size 9 i9 _ 1 16 Tryz.underlying32 hi9 hx9 hy9 hz9 rfl (by decide) _ L.length _ rfl (HO.out.alloc _) ⟨wz.heap.size, 0, none⟩ 1 1 [.string id] rfl rfl (cell_one_new _ _ _) (by simp [Value.oneCell']) (by unfold maxLen; omega) (by omega) (by simp; omega) ?_; intro v9 w9 hown9 hgrow9 hnil9 hat9; have HO9 : Hid (w9.ownsRow w2.heap.size 9 1 v9 (L ++ [id]).length ((L ++ [id]).map Value.string)) := (by show World.ownsRow _ _ _ _ _ _ _; rw [List.length_append, List.map_append]; exact hown9); have HB9 : Hid (Below w2.heap.size w2 w9) := (HBZ.out.alloc HBZ.out.size _).grown hgrow9 (Nat.le_trans HBZ.out.size (by simp)) (fun g e => (HO.out.lt g e).1); clear hown9 hgrow9 hnil9 hat9))
          go_roundw
          case rel => exact ⟨k + 1, by omega, by go_num, by rw [HT.out]; exact HO9, HB9⟩
          case measure => simp [intOf]; omega
      · have hkn : k = ps.length := by omega
        subst hkn
        have HO0 := hrow
        have HBR := hbr
        clear hrow hbr hk hlt
        go_wp2
        go_ret2
        refine ⟨_, rfl, HB2.out.trans (HBR.out.mono (by omega)), ?_⟩
        rw [HAL.out]
        exact own_strs HO0.out (Nat.le_refl _)
  · rw [if_neg h0]
    have e0 : (askE d ps c != 0) = true := by simpa using h0
    generalize askE d ps c = er at *
    clear HAP h0
    go_enter Tryz.func13, Tryz.ntmps13
    go_wp2_with (go_at_call 30; refine (HWR.out _ HBW.out).mono ?_; rintro e w2 ⟨rfl, hb2⟩; obtain ⟨y0, y1, y2⟩ := l3_up HX.out hb2 (by simp); have HX2 := Lib.hid (l3_up HX.out hb2 (by simp)); have HB2 := Lib.hid (HBW.out.trans (hb2.mono (by simp))); have hz2 := hb2.size; simp only [World.size_alloc] at hz2; clear hb2 x0 x1 x2)
    go_ret2
    exact ⟨_, rfl, HB2.out, strs_none _ _⟩

/-- what keeps a provision from applying, as the reference finds it -/
theorem blk_ref {d : List Fa} {ps : List Pv} {c : List Int} (h0 : askE d ps c = 0) (id : ByteArray) :
    blkE d ps c id = (if (List.range ps.length).any (fun k => eqB (idAt ps k) id) = true then 0 else 11) ∧ (blkE d ps c id = 0 → blkL d ps c id = idsL ps (exAp ps (apA d ps c (rowsOf ps)) id) ps.length) := by
  obtain ⟨hn, _, _⟩ := ask_parts h0
  by_cases hx : ∃ x, ∃ h : x < ps.length, ps[x].id = id
  · obtain ⟨x, h, rfl⟩ := hx
    obtain ⟨h1, h2⟩ := dec_at h0 x h
    refine ⟨?_, fun _ => ?_⟩
    · rw [h1, if_pos]
      rw [List.any_eq_true]
      exact ⟨x, List.mem_range.2 h, by rw [idAt_eq h]; simp [eqB]⟩
    · rw [h2, rowsOf_get hn x h, List.filter_filter]
      unfold idsL
      congr 1
      refine List.filter_congr fun k _ => ?_
      unfold exAp
      rw [Bool.and_comm]
  · have hno : (List.range ps.length).any (fun k => eqB (idAt ps k) id) = false := by
      rw [List.any_eq_false]
      intro k hk he
      have hk := List.mem_range.1 hk
      rw [idAt_eq hk] at he
      exact hx ⟨k, hk, (eqB_iff _ _).1 he⟩
    have hl : (atK (ps.map Pv.id) ps.length).lookup id = none := by
      rw [atK_none _ _ (by simp)]
      intro hm
      rw [List.take_of_length_le (by simp)] at hm
      obtain ⟨q, hq, e⟩ := List.mem_map.1 hm
      obtain ⟨k, hk, rfl⟩ := List.getElem_of_mem hq
      exact hx ⟨k, hk, e⟩
    have hb : blkE d ps c id = 11 := by unfold blkE; rw [if_pos h0, hl]; rfl
    refine ⟨?_, fun h => ?_⟩
    · rw [hb, if_neg (by rw [hno]; decide)]
    · rw [hb] at h; cases h

set_option maxRecDepth 100000 in
set_option maxHeartbeats 8000000 in
theorem refBlocked_any (d : List Fa) (ps : List Pv) (c : List Int) (sid : ByteArray) (v cv : Value) (w : World) (B : Nat) (hn : ps.length ≤ 1000) (hsz : ∀ p ∈ ps, p.cond.size ≤ 1000000) (hB : B ≤ w.heap.size) (hl : LawIn w B d ps v) (hc : IntsIn w B c cv) :
    Calls Tryz.prog 15 #[v, .string sid, cv] w fun e w' => ∃ u, e = .returned (.tuple #[u, .int .i64 (blkE d ps c sid)]) ∧ Below w.heap.size w w' ∧ StrsIn w' w'.heap.size (if blkE d ps c sid = 0 then blkL d ps c sid else []) u := by
  have HL0 := Lib.hid hl
  have HC0 := Lib.hid hc
  obtain ⟨u1, u2, asn, ns, cs, rfl, hd, hp⟩ := hl
  obtain ⟨ad, cd, rfl, d1, d2, _⟩ := SlIn.shape hd
  obtain ⟨ap, cp, rfl, p1, p2, _⟩ := SlIn.shape hp
  obtain ⟨ac, cc, rfl, c1, c2, _⟩ := SlIn.shape hc
  unfold maxLen at p2
  have hbw : Below w.heap.size w (w.alloc (.cells #[.slice ad d.length cd, .slice ap ps.length cp, .slice asn ns cs] 28)) := (Below.refl _ _).alloc (Nat.le_refl _) _
  have K0 := Blk.new w 28 #[.slice ad d.length cd, .slice ap ps.length cp, .slice asn ns cs]
  have HX : Hid (L3 (w.alloc (.cells #[.slice ad d.length cd, .slice ap ps.length cp, .slice asn ns cs] 28)) w.heap.size (.slice ad d.length cd) (.slice ap ps.length cp) (.slice asn ns cs)) := ⟨K0.cell 0, K0.cell 1, K0.cell 2⟩
  obtain ⟨x0, x1, x2⟩ := HX.out
  have HBW := Lib.hid hbw
  have HP := Lib.hid hp
  have HWR := Lib.hid (fun W (hb : Below w.heap.size w W) => refWrong_any d ps c _ _ W B hn hsz (Nat.le_trans hB hb.size) (HL0.out.below (hb.mono hB)) (HC0.out.below (hb.mono hB)))
  have HAP := Lib.hid (fun (h0 : askE d ps c = 0) k (hk : k < ps.length) W (hb : Below w.heap.size w W) => refApplied_any d ps c hn hsz h0 k _ _ W B hk (Nat.le_trans hB hb.size) (HL0.out.below (hb.mono hB)) (HC0.out.below (hb.mono hB)))
  obtain ⟨i9, hi9, hx9, hy9, hz9⟩ := info_parts strInfo
  clear hd hp hc hbw K0 hsz
  by_cases h0 : askE d ps c = 0
  · have HAP2 := Lib.hid (HAP.out h0)
    have HBE := Lib.hid (blk_ref h0 sid)
    rw [h0] at HWR
    have HXD : Hid (∀ k, exAp ps (apA d ps c (rowsOf ps)) sid k = (inB ((ps.map Pv.except).getD k []) sid && apA d ps c (rowsOf ps) k)) := fun _ => rfl
    generalize exAp ps (apA d ps c (rowsOf ps)) sid = gx at *
    generalize apA d ps c (rowsOf ps) = g at *
    generalize blkE d ps c sid = be at *
    generalize blkL d ps c sid = bl at *
    clear HAP h0
    go_enter Tryz.func15, Tryz.ntmps15
    go_wp2_with (go_at_call 30; refine (HWR.out _ HBW.out).mono ?_; rintro e w2 ⟨rfl, hb2⟩; obtain ⟨y0, y1, y2⟩ := l3_up HX.out hb2 (by simp); have HX2 := Lib.hid (l3_up HX.out hb2 (by simp)); have HB2 := Lib.hid (HBW.out.trans (hb2.mono (by simp))); have hz2 := hb2.size; simp only [World.size_alloc] at hz2; clear hb2 x0 x1 x2)
    clear y0 y1 y2
    go_loopw [8, 9, 10] (fun eo vo kv wr => ∃ k : Nat, k ≤ ps.length ∧ kv = .int .i64 k ∧ eo = .int .i64 (if (List.range k).any (fun j => eqB (idAt ps j) sid) = true then 0 else 11) ∧ Hid (wr.ownsRow w2.heap.size 9 1 vo (idsL ps gx k).length ((idsL ps gx k).map Value.string)) ∧ Hid (Below w2.heap.size w2 wr)) (fun _ _ kv _ => ps.length - (intOf kv).toNat)
    case atStart => exact ⟨0, Nat.zero_le _, rfl, rfl, ⟨rfl, .inl ⟨rfl, rfl⟩⟩, Below.refl _ _⟩
    case round =>
      rename World => wq
      obtain ⟨k, hk, rfl, heo, hrow, hbr⟩ := hrel
      subst heo
      obtain ⟨y0, y1, y2⟩ := l3_up HX2.out hbr.out (by omega)
      by_cases hlt : k < ps.length
      · have hbq := HB2.out.trans (hbr.out.mono (by omega))
        have hidl := idsL_succ ps gx k
        have hid := idAt_eq hlt
        have hll := idsL_len ps gx k
        have CA := Lib.hid (fun W hb => HAP2.out k hlt W hb)
        obtain ⟨b, off, rfl, hbB, ak, ck, ae, ce, hr, _, he, _⟩ := SlIn.at (HP.out.below PvR.kept (hbq.mono hB)) k hlt
        have ec := hr 0 _ rfl
        rw [Nat.add_zero] at ec
        have ex := hr 10 _ rfl
        have hcell : ∀ W, Below wq.heap.size wq W → W.cell? ⟨b, off + k * 23, none⟩ = some (.string ps[k].id) := fun W hb => (hb.cell (p := ⟨b, off + k * 23, none⟩) (by show b < _; have := hbq.size; omega)).trans ec
        have hsn : (List.range (k + 1)).any (fun j => eqB (idAt ps j) sid) = ((List.range k).any (fun j => eqB (idAt ps j) sid) || eqB ps[k].id sid) := by rw [List.range_succ, List.any_append, List.any_cons, List.any_nil, hid]; simp
        have hxd := HXD.out k
        rw [getD_map hlt] at hxd
        rw [hid] at hidl
        have HIL := Lib.hid hidl
        have HCE := Lib.hid hcell
        have HSN := Lib.hid hsn
        generalize idsL ps gx k = L at *
        generalize ps[k].id = id at *
        generalize ps[k].except = pe at *
        generalize (List.range k).any (fun j => eqB (idAt ps j) sid) = sk at *
        have HO0 := hrow
        have HBR := hbr
        have hqz := hbr.out.size
        have k0 : (0 : Int) ≤ (k : Int) := Int.natCast_nonneg _
        have k1 : (k : Int) < (ps.length : Int) := by omega
        have heq : eqB id sid = (id.toList == sid.toList) := rfl
        obtain ⟨xe, hxe⟩ : ∃ xe, inB pe sid = xe := ⟨_, rfl⟩
        have CE := Lib.hid (in_q2 (W := wq) he hxe)
        rw [hxe] at hxd
        clear hidl hid hcell hsn hrow hbr hr he hxe
        cases hq : (id.toList == sid.toList) with
        | false =>
          rw [hq] at heq
          have HE2 : Hid ((List.range (k + 1)).any (fun j => eqB (idAt ps j) sid) = sk) := by show _ = _; rw [HSN.out, heq]; simp
          clear heq HSN
          cases xe with
          | false =>
            have HT := Lib.hid (show idsL ps gx (k + 1) = L by rw [HIL.out, hxd]; simp)
            clear hxd HIL
            go_wp2_with (go_at_call 21; refine CE.out.mono ?_; rintro e w5 ⟨rfl, rfl⟩)
            go_roundw
            case rel => exact ⟨k + 1, by omega, by go_num, by rw [HE2.out]; try rfl, by rw [HT.out]; exact HO0, HBR⟩
            case measure => simp [intOf]; omega
          | true =>
            rw [Bool.true_and] at hxd
            cases hg : g k with
            | false =>
              rw [hg] at CA hxd
              have HT := Lib.hid (show idsL ps gx (k + 1) = L by rw [HIL.out, hxd]; simp)
              clear hxd HIL hg
              go_wp2_with (first
                | (go_at_call 21; refine CE.out.mono ?_; rintro e w5 ⟨rfl, rfl⟩)
                | (go_at_call 31; refine (CA.out _ hbq).mono ?_; rintro e wz ⟨rfl, hbz⟩; have HO := Lib.hid (own_under HO0.out hbz); have HBZ : Hid (Below w2.heap.size w2 wz) := HBR.out.trans (hbz.mono hqz); obtain ⟨s0, s1, s2⟩ := l3_up HX2.out HBZ.out (by omega); have ez := HCE.out wz hbz; have hzz := hbz.size; clear hbz y0 y1 y2))
              go_roundw
              case rel => exact ⟨k + 1, by omega, by go_num, by rw [HE2.out]; try rfl, by rw [HT.out]; exact HO, HBZ⟩
              case measure => simp [intOf]; omega
            | true =>
              rw [hg] at CA hxd
              have HT := Lib.hid (show idsL ps gx (k + 1) = L ++ [id] by rw [HIL.out, hxd]; simp)
              clear hxd HIL hg
              go_wp2_with (first
                | (go_at_call 21; refine CE.out.mono ?_; rintro e w5 ⟨rfl, rfl⟩)
                | (go_at_call 31; refine (CA.out _ hbq).mono ?_; rintro e wz ⟨rfl, hbz⟩; have HO := Lib.hid (own_under HO0.out hbz); have HBZ : Hid (Below w2.heap.size w2 wz) := HBR.out.trans (hbz.mono hqz); obtain ⟨s0, s1, s2⟩ := l3_up HX2.out HBZ.out (by omega); have ez := HCE.out wz hbz; have hzz := hbz.size; clear hbz y0 y1 y2)
                | (at_builtin; refine wpList_append_own_at _ rfl _ _ 32 rfl w2.heap.size 9 i9 _ 1 16 Tryz.underlying32 hi9 hx9 hy9 hz9 rfl (by decide) _ L.length _ rfl (HO.out.alloc _) ⟨wz.heap.size, 0, none⟩ 1 1 [.string id] rfl rfl (cell_one_new _ _ _) (by simp [Value.oneCell']) (by unfold maxLen; omega) (by omega) (by simp; omega) ?_; intro v9 w9 hown9 hgrow9 hnil9 hat9; have HO9 : Hid (w9.ownsRow w2.heap.size 9 1 v9 (L ++ [id]).length ((L ++ [id]).map Value.string)) := (by show World.ownsRow _ _ _ _ _ _ _; rw [List.length_append, List.map_append]; exact hown9); have HB9 : Hid (Below w2.heap.size w2 w9) := (HBZ.out.alloc HBZ.out.size _).grown hgrow9 (Nat.le_trans HBZ.out.size (by simp)) (fun g e => (HO.out.lt g e).1); clear hown9 hgrow9 hnil9 hat9))
              go_roundw
              case rel => exact ⟨k + 1, by omega, by go_num, by rw [HE2.out]; try rfl, by rw [HT.out]; exact HO9, HB9⟩
              case measure => simp [intOf]; omega
        | true =>
          rw [hq] at heq
          have HE2 : Hid ((List.range (k + 1)).any (fun j => eqB (idAt ps j) sid) = true) := by show _ = _; rw [HSN.out, heq]; simp
          clear heq HSN
          cases xe with
          | false =>
            have HT := Lib.hid (show idsL ps gx (k + 1) = L by rw [HIL.out, hxd]; simp)
            clear hxd HIL
            go_wp2_with (go_at_call 21; refine CE.out.mono ?_; rintro e w5 ⟨rfl, rfl⟩)
            go_roundw
            case rel => exact ⟨k + 1, by omega, by go_num, by rw [HE2.out]; try rfl, by rw [HT.out]; exact HO0, HBR⟩
            case measure => simp [intOf]; omega
          | true =>
            rw [Bool.true_and] at hxd
            cases hg : g k with
            | false =>
              rw [hg] at CA hxd
              have HT := Lib.hid (show idsL ps gx (k + 1) = L by rw [HIL.out, hxd]; simp)
              clear hxd HIL hg
              go_wp2_with (first
                | (go_at_call 21; refine CE.out.mono ?_; rintro e w5 ⟨rfl, rfl⟩)
                | (go_at_call 31; refine (CA.out _ hbq).mono ?_; rintro e wz ⟨rfl, hbz⟩; have HO := Lib.hid (own_under HO0.out hbz); have HBZ : Hid (Below w2.heap.size w2 wz) := HBR.out.trans (hbz.mono hqz); obtain ⟨s0, s1, s2⟩ := l3_up HX2.out HBZ.out (by omega); have ez := HCE.out wz hbz; have hzz := hbz.size; clear hbz y0 y1 y2))
              go_roundw
              case rel => exact ⟨k + 1, by omega, by go_num, by rw [HE2.out]; try rfl, by rw [HT.out]; exact HO, HBZ⟩
              case measure => simp [intOf]; omega
            | true =>
              rw [hg] at CA hxd
              have HT := Lib.hid (show idsL ps gx (k + 1) = L ++ [id] by rw [HIL.out, hxd]; simp)
              clear hxd HIL hg
              go_wp2_with (first
                | (go_at_call 21; refine CE.out.mono ?_; rintro e w5 ⟨rfl, rfl⟩)
                | (go_at_call 31; refine (CA.out _ hbq).mono ?_; rintro e wz ⟨rfl, hbz⟩; have HO := Lib.hid (own_under HO0.out hbz); have HBZ : Hid (Below w2.heap.size w2 wz) := HBR.out.trans (hbz.mono hqz); obtain ⟨s0, s1, s2⟩ := l3_up HX2.out HBZ.out (by omega); have ez := HCE.out wz hbz; have hzz := hbz.size; clear hbz y0 y1 y2)
                | (at_builtin; refine wpList_append_own_at _ rfl _ _ 32 rfl w2.heap.size 9 i9 _ 1 16 Tryz.underlying32 hi9 hx9 hy9 hz9 rfl (by decide) _ L.length _ rfl (HO.out.alloc _) ⟨wz.heap.size, 0, none⟩ 1 1 [.string id] rfl rfl (cell_one_new _ _ _) (by simp [Value.oneCell']) (by unfold maxLen; omega) (by omega) (by simp; omega) ?_; intro v9 w9 hown9 hgrow9 hnil9 hat9; have HO9 : Hid (w9.ownsRow w2.heap.size 9 1 v9 (L ++ [id]).length ((L ++ [id]).map Value.string)) := (by show World.ownsRow _ _ _ _ _ _ _; rw [List.length_append, List.map_append]; exact hown9); have HB9 : Hid (Below w2.heap.size w2 w9) := (HBZ.out.alloc HBZ.out.size _).grown hgrow9 (Nat.le_trans HBZ.out.size (by simp)) (fun g e => (HO.out.lt g e).1); clear hown9 hgrow9 hnil9 hat9))
              go_roundw
              case rel => exact ⟨k + 1, by omega, by go_num, by rw [HE2.out]; try rfl, by rw [HT.out]; exact HO9, HB9⟩
              case measure => simp [intOf]; omega
      · have hkn : k = ps.length := by omega
        subst hkn
        have HO0 := hrow
        have HBR := hbr
        have hb1 := HBE.out.1
        have HB2E := Lib.hid HBE.out.2
        clear hrow hbr hk hlt HBE
        generalize (List.range ps.length).any (fun j => eqB (idAt ps j) sid) = sk at *
        cases sk with
        | true =>
          have hbe : be = 0 := by rw [hb1]; rfl
          subst hbe
          have HL := Lib.hid (HB2E.out rfl)
          clear hb1 HB2E
          go_wp2
          go_ret2
          refine ⟨_, rfl, HB2.out.trans (HBR.out.mono (by omega)), ?_⟩
          first | rw [if_pos rfl, HL.out] | rw [HL.out]
          exact own_strs HO0.out (Nat.le_refl _)
        | false =>
          have hbe : be = 11 := by rw [hb1]; rfl
          subst hbe
          clear hb1 HB2E
          go_wp2
          go_ret2
          exact ⟨_, rfl, HB2.out.trans (HBR.out.mono (by omega)), strs_none _ _⟩
  · have hbe : blkE d ps c sid = askE d ps c := by unfold blkE; rw [if_neg h0]
    rw [hbe, if_neg h0]
    have e0 : (askE d ps c != 0) = true := by simpa using h0
    generalize askE d ps c = er at *
    clear HAP h0 hbe
    go_enter Tryz.func15, Tryz.ntmps15
    go_wp2_with (go_at_call 30; refine (HWR.out _ HBW.out).mono ?_; rintro e w2 ⟨rfl, hb2⟩; obtain ⟨y0, y1, y2⟩ := l3_up HX.out hb2 (by simp); have HX2 := Lib.hid (l3_up HX.out hb2 (by simp)); have HB2 := Lib.hid (HBW.out.trans (hb2.mono (by simp))); have hz2 := hb2.size; simp only [World.size_alloc] at hz2; clear hb2 x0 x1 x2)
    go_ret2
    exact ⟨_, rfl, HB2.out, strs_none _ _⟩
end

end Go.Proofs.YtihpoecdnchioaaGreatDoor

namespace Go.Proofs.YtihpoecdnchioaaGreatDoor
open Go.RowKit Tj

section
set_option maxRecDepth 100000 in
set_option maxHeartbeats 8000000 in
theorem normMatchesReference_any {d : List Fa} {ps : List Pv} {sid : ByteArray} {c : List Int} {v cv : Value} (w : World) (hl : LawIn w w.heap.size d ps v) (_hs : sid.size ≤ maxLen) (hc : IntsIn w w.heap.size c cv) :
    Calls Tryz.prog 3 #[v, .string sid, cv] w fun e w' => e = .returned (.bool true) ∧ Below w.heap.size w w' := by
  have hl0 := hl
  obtain ⟨u1, u2, asn, ns, cs, rfl, hd, hp⟩ := hl
  obtain ⟨ad, cd, rfl, d1, d2, _⟩ := SlIn.shape hd
  obtain ⟨ap, cp, rfl, p1, p2, _⟩ := SlIn.shape hp
  have hc0 := hc
  obtain ⟨ac, cc, rfl, c1, c2, _⟩ := SlIn.shape hc
  unfold maxLen at p2
  have hbw : Below w.heap.size w (w.alloc (.cells #[.slice ad d.length cd, .slice ap ps.length cp, .slice asn ns cs] 28)) := (Below.refl _ _).alloc (Nat.le_refl _) _
  have K0 := Blk.new w 28 #[.slice ad d.length cd, .slice ap ps.length cp, .slice asn ns cs]
  have HX : Hid (L3 (w.alloc (.cells #[.slice ad d.length cd, .slice ap ps.length cp, .slice asn ns cs] 28)) w.heap.size (.slice ad d.length cd) (.slice ap ps.length cp) (.slice asn ns cs)) := ⟨K0.cell 0, K0.cell 1, K0.cell 2⟩
  obtain ⟨x0, x1, x2⟩ := HX.out
  have HBW := Lib.hid hbw
  have HFEW := Lib.hid (fun W (hb : Below w.heap.size w W) => few_any d ps 10 _ W w.heap.size (by decide) (by decide) hb.size (hl0.below hb))
  cases hf : fewL d ps 10 with
  | false =>
    rw [hf] at HFEW
    clear hl0 hd hp hc hc0 hbw K0 hf
    go_enter Tryz.func3, Tryz.ntmps3
    go_wp2_with (first
      | (go_at_call 10; refine (head_any _).mono ?_; rintro e w1 ⟨rfl, hb1⟩; have HX1 := Lib.hid (l3_up HX.out hb1 (by simp)); have HB1 := Lib.hid (HBW.out.trans (hb1.mono (by simp))); have hz1 := hb1.size; simp only [World.size_alloc] at hz1; obtain ⟨y0, y1, y2⟩ := HX1.out; clear hb1 x0 x1 x2)
      | (go_at_call 11; refine (HFEW.out _ HB1.out).mono ?_; rintro e w2 ⟨rfl, hb2⟩; have HX2 := Lib.hid (l3_up HX1.out hb2 (by omega)); have HB2 := Lib.hid (HB1.out.trans (hb2.mono (by omega))); have hz2 := hb2.size; clear hb2 y0 y1 y2; obtain ⟨z0, z1, z2⟩ := HX2.out))
    go_ret
    exact ⟨rfl, HB2.out⟩
  | true =>
    obtain ⟨hn, hex, hsz⟩ := fewL_parts (n := 10) hf
    have hn2 : ps.length ≤ 1000 := by omega
    have hsz2 : ∀ p ∈ ps, p.cond.size ≤ 1000000 := fun p hp => Nat.le_trans (hsz p hp) (by decide)
    rw [hf] at HFEW
    have HAPP := Lib.hid (fun W (hb : Below w.heap.size w W) => appl_any d ps c _ _ W w.heap.size hn2 hb.size (hl0.below hb) hex hsz2 (hc0.below hb))
    have HAPR := Lib.hid (fun W (hb : Below w.heap.size w W) => refApplies_any d ps c _ _ W w.heap.size hn2 hsz2 hb.size (hl0.below hb) (hc0.below hb))
    have HBLK := Lib.hid (fun W (hb : Below w.heap.size w W) => blk_any d ps c sid _ _ W w.heap.size hn2 hb.size (hl0.below hb) hex hsz2 (hc0.below hb))
    have HBLR := Lib.hid (fun W (hb : Below w.heap.size w W) => refBlocked_any d ps c sid _ _ W w.heap.size hn2 hsz2 hb.size (hl0.below hb) (hc0.below hb))
    have HCIN := Lib.hid (fun W (hb : Below w.heap.size w W) => circ_any d ps _ W w.heap.size hn2 hb.size (hl0.below hb) hex)
    have HCIR := Lib.hid (fun W (hb : Below w.heap.size w W) => refCirc_any d ps _ W w.heap.size hn2 hb.size (hl0.below hb))
    generalize (if askE d ps c = 0 then appliedL d ps c else []) = al at *
    generalize askE d ps c = er at *
    generalize (if blkE d ps c sid = 0 then blkL d ps c sid else []) = bl at *
    generalize blkE d ps c sid = be at *
    generalize circL ps = cl at *
    clear hl0 hd hp hc hc0 hbw K0 hf hex hsz hsz2
    go_enter Tryz.func3, Tryz.ntmps3
    go_upto_region 8 with (first
      | (go_at_call 10; refine (head_any _).mono ?_; rintro e w1 ⟨rfl, hb1⟩; have HX1 := Lib.hid (l3_up HX.out hb1 (by simp)); have HB1 := Lib.hid (HBW.out.trans (hb1.mono (by simp))); have hz1 := hb1.size; simp only [World.size_alloc] at hz1; obtain ⟨y0, y1, y2⟩ := HX1.out; clear hb1 x0 x1 x2)
      | (go_at_call 11; refine (HFEW.out _ HB1.out).mono ?_; rintro e w2 ⟨rfl, hb2⟩; have HX2 := Lib.hid (l3_up HX1.out hb2 (by omega)); have HB2 := Lib.hid (HB1.out.trans (hb2.mono (by omega))); have hz2 := hb2.size; clear hb2 y0 y1 y2; obtain ⟨z0, z1, z2⟩ := HX2.out)
      | (go_at_call 12; refine (HAPP.out _ HB2.out).mono ?_; rintro e w3 ⟨u3, rfl, hb3, hu3⟩; obtain ⟨aa, ca, rfl, _, _, _⟩ := SlIn.shape hu3; have HX3 := Lib.hid (l3_up HX2.out hb3 (by omega)); have HB3 := Lib.hid (HB2.out.trans (hb3.mono (by omega))); have hz3 := hb3.size; have HA3 := Lib.hid hu3; clear hb3 hu3 z0 z1 z2; obtain ⟨p0, p1', p2'⟩ := HX3.out)
      | (go_at_call 13; refine (HAPR.out _ HB3.out).mono ?_; rintro e w4 ⟨u4, rfl, hb4, hu4⟩; obtain ⟨ba, cb, rfl, _, _, _⟩ := SlIn.shape hu4; have HX4 := Lib.hid (l3_up HX3.out hb4 (by omega)); have HB4 := Lib.hid (HB3.out.trans (hb4.mono (by omega))); have hz4 := hb4.size; have HA4 := Lib.hid (strs_up HA3.out hb4); have HR4 := Lib.hid hu4; clear hb4 hu4 p0 p1' p2'; obtain ⟨q0, q1, q2⟩ := HX4.out)
      | (go_at_call 14; refine (HBLK.out _ HB4.out).mono ?_; rintro e w5 ⟨u5, rfl, hb5, hu5⟩; obtain ⟨da, cda, rfl, _, _, _⟩ := SlIn.shape hu5; have HX5 := Lib.hid (l3_up HX4.out hb5 (by omega)); have HB5 := Lib.hid (HB4.out.trans (hb5.mono (by omega))); have hz5 := hb5.size; have HA5 := Lib.hid (strs_up HA4.out hb5); have HR5 := Lib.hid (strs_up HR4.out hb5); have HX_5 := Lib.hid hu5; clear hb5 hu5 q0 q1 q2; obtain ⟨r0, r1, r2⟩ := HX5.out)
      | (go_at_call 15; refine (HBLR.out _ HB5.out).mono ?_; rintro e w6 ⟨u6, rfl, hb6, hu6⟩; obtain ⟨ea, cea, rfl, _, _, _⟩ := SlIn.shape hu6; have HX6 := Lib.hid (l3_up HX5.out hb6 (by omega)); have HB6 := Lib.hid (HB5.out.trans (hb6.mono (by omega))); have hz6 := hb6.size; have HA6 := Lib.hid (strs_up HA5.out hb6); have HR6 := Lib.hid (strs_up HR5.out hb6); have HX_6 := Lib.hid (strs_up HX_5.out hb6); have HY_6 := Lib.hid hu6; clear hb6 hu6 r0 r1 r2; obtain ⟨s0, s1, s2⟩ := HX6.out))
    clear s0 s1 s2
    have hw6 : w.heap.size < w6.heap.size := by omega
    refine wp_region_held_drew (S := (fun w' : World => Below w6.heap.size w6 w')) (by kernel_rfl) (World.drewN_below _ _ 1) (fun hHeld => ?_)
    refine wpAnyH_take (i := 0) (oi := { dst := some 47, op := Go.Op.move (Go.Operand.tmp 7), type := 4, pos := "law.go:48", after := #[], guard := none }) (v := ?v0) rfl (by kernel_rfl) (by kernel_rfl) (by kernel_rfl) (fun _ _ _ h => h) (Or.inl ⟨by rfl, ?y0⟩) (by assumption) ?_
    case y0 => (intro w9 hSw; obtain ⟨e0, e1, e2⟩ := l3_up HX6.out hSw hw6; go_simp; try with_reducible rfl)
    try simp only [Act.put, List.setIfInBounds_toArray, List.set_cons_zero, List.set_cons_succ]
    refine wpAnyH_take (i := 1) (oi := { dst := some 48, op := Go.Op.move (Go.Operand.tmp 47), type := 4, pos := "law.go:48", after := #[{ on := 0, ground := Go.Ground.data }], guard := none }) (v := ?v1) rfl (by kernel_rfl) (by kernel_rfl) (by kernel_rfl) (fun _ _ _ h => h) (Or.inl ⟨by rfl, ?y1⟩) (by assumption) ?_
    case y1 => (intro w9 hSw; obtain ⟨e0, e1, e2⟩ := l3_up HX6.out hSw hw6; go_simp; try with_reducible rfl)
    try simp only [Act.put, List.setIfInBounds_toArray, List.set_cons_zero, List.set_cons_succ]
    refine wpAnyH_take (i := 2) (oi := { dst := some 49, op := Go.Op.move (Go.Operand.tmp 9), type := 33, pos := "law.go:48", after := #[{ on := 1, ground := Go.Ground.guard }], guard := some (1, true) }) (v := ?v2) rfl (by kernel_rfl) (by kernel_rfl) (by kernel_rfl) (fun _ _ _ h => h) (Or.inl ⟨by rfl, ?y2⟩) (by assumption) ?_
    case y2 => (intro w9 hSw; obtain ⟨e0, e1, e2⟩ := l3_up HX6.out hSw hw6; go_simp; try with_reducible rfl)
    try simp only [Act.put, List.setIfInBounds_toArray, List.set_cons_zero, List.set_cons_succ]
    refine wpAnyH_take (i := 3) (oi := { dst := some 50, op := Go.Op.move (Go.Operand.tmp 11), type := 33, pos := "law.go:48", after := #[{ on := 1, ground := Go.Ground.guard }], guard := some (1, true) }) (v := ?v3) rfl (by kernel_rfl) (by kernel_rfl) (by kernel_rfl) (fun _ _ _ h => h) (Or.inl ⟨by rfl, ?y3⟩) (by assumption) ?_
    case y3 => (intro w9 hSw; obtain ⟨e0, e1, e2⟩ := l3_up HX6.out hSw hw6; go_simp; try with_reducible rfl)
    try simp only [Act.put, List.setIfInBounds_toArray, List.set_cons_zero, List.set_cons_succ]
    refine wpAnyH_take (i := 4) (oi := { dst := some 51, op := Go.Op.binOp Go.BinOp.eql 33 (Go.Operand.tmp 49) (Go.Operand.tmp 50) 33, type := 4, pos := "law.go:48", after := #[{ on := 2, ground := Go.Ground.data }, { on := 3, ground := Go.Ground.data }, { on := 1, ground := Go.Ground.guard }], guard := some (1, true) }) (v := ?v4) rfl (by kernel_rfl) (by kernel_rfl) (by kernel_rfl) (fun _ _ _ h => h) (Or.inl ⟨by rfl, ?y4⟩) (by assumption) ?_
    case y4 => (intro w9 hSw; obtain ⟨e0, e1, e2⟩ := l3_up HX6.out hSw hw6; go_simp; try with_reducible rfl)
    try simp only [Act.put, List.setIfInBounds_toArray, List.set_cons_zero, List.set_cons_succ]
    refine wpAnyH_take (i := 5) (oi := { dst := some 52, op := Go.Op.pick (Go.Operand.tmp 48) (Go.Operand.tmp 51) (Go.Operand.const (Go.Value.bool false)), type := 4, pos := "law.go:48", after := #[{ on := 1, ground := Go.Ground.data }, { on := 4, ground := Go.Ground.data }], guard := none }) (v := ?v5) rfl (by kernel_rfl) (by kernel_rfl) (by kernel_rfl) (fun _ _ _ h => h) (Or.inl ⟨by rfl, ?y5⟩) (by assumption) ?_
    case y5 => (intro w9 hSw; obtain ⟨e0, e1, e2⟩ := l3_up HX6.out hSw hw6; go_simp; try with_reducible rfl)
    try simp only [Act.put, List.setIfInBounds_toArray, List.set_cons_zero, List.set_cons_succ]
    refine wpAnyH_take (i := 6) (oi := { dst := some 53, op := Go.Op.move (Go.Operand.tmp 52), type := 4, pos := "law.go:48", after := #[{ on := 5, ground := Go.Ground.data }, { on := 1, ground := Go.Ground.chain }], guard := none }) (v := ?v6) rfl (by kernel_rfl) (by kernel_rfl) (by kernel_rfl) (fun _ _ _ h => h) (Or.inl ⟨by rfl, ?y6⟩) (by assumption) ?_
    case y6 => (intro w9 hSw; obtain ⟨e0, e1, e2⟩ := l3_up HX6.out hSw hw6; go_simp; try with_reducible rfl)
    try simp only [Act.put, List.setIfInBounds_toArray, List.set_cons_zero, List.set_cons_succ]
    refine wpAnyH_take (i := 7) (oi := { dst := some 54, op := Go.Op.move (Go.Operand.tmp 13), type := 33, pos := "law.go:48", after := #[{ on := 6, ground := Go.Ground.guard }], guard := some (6, true) }) (v := ?v7) rfl (by kernel_rfl) (by kernel_rfl) (by kernel_rfl) (fun _ _ _ h => h) (Or.inl ⟨by rfl, ?y7⟩) (by assumption) ?_
    case y7 => (intro w9 hSw; obtain ⟨e0, e1, e2⟩ := l3_up HX6.out hSw hw6; go_simp; try with_reducible rfl)
    try simp only [Act.put, List.setIfInBounds_toArray, List.set_cons_zero, List.set_cons_succ]
    refine wpAnyH_take (i := 8) (oi := { dst := some 55, op := Go.Op.move (Go.Operand.tmp 15), type := 33, pos := "law.go:48", after := #[{ on := 6, ground := Go.Ground.guard }], guard := some (6, true) }) (v := ?v8) rfl (by kernel_rfl) (by kernel_rfl) (by kernel_rfl) (fun _ _ _ h => h) (Or.inl ⟨by rfl, ?y8⟩) (by assumption) ?_
    case y8 => (intro w9 hSw; obtain ⟨e0, e1, e2⟩ := l3_up HX6.out hSw hw6; go_simp; try with_reducible rfl)
    try simp only [Act.put, List.setIfInBounds_toArray, List.set_cons_zero, List.set_cons_succ]
    refine wpAnyH_take (i := 9) (oi := { dst := some 56, op := Go.Op.binOp Go.BinOp.eql 33 (Go.Operand.tmp 54) (Go.Operand.tmp 55) 33, type := 4, pos := "law.go:48", after := #[{ on := 7, ground := Go.Ground.data }, { on := 8, ground := Go.Ground.data }, { on := 6, ground := Go.Ground.guard }], guard := some (6, true) }) (v := ?v9) rfl (by kernel_rfl) (by kernel_rfl) (by kernel_rfl) (fun _ _ _ h => h) (Or.inl ⟨by rfl, ?y9⟩) (by assumption) ?_
    case y9 => (intro w9 hSw; obtain ⟨e0, e1, e2⟩ := l3_up HX6.out hSw hw6; go_simp; try with_reducible rfl)
    try simp only [Act.put, List.setIfInBounds_toArray, List.set_cons_zero, List.set_cons_succ]
    refine wpAnyH_take (i := 10) (oi := { dst := some 57, op := Go.Op.pick (Go.Operand.tmp 53) (Go.Operand.tmp 56) (Go.Operand.const (Go.Value.bool false)), type := 4, pos := "law.go:48", after := #[{ on := 6, ground := Go.Ground.data }, { on := 9, ground := Go.Ground.data }], guard := none }) (v := ?v10) rfl (by kernel_rfl) (by kernel_rfl) (by kernel_rfl) (fun _ _ _ h => h) (Or.inl ⟨by rfl, ?y10⟩) (by assumption) ?_
    case y10 => (intro w9 hSw; obtain ⟨e0, e1, e2⟩ := l3_up HX6.out hSw hw6; go_simp; try with_reducible rfl)
    try simp only [Act.put, List.setIfInBounds_toArray, List.set_cons_zero, List.set_cons_succ]
    refine wpAnyH_take (i := 11) (oi := { dst := some 58, op := Go.Op.move (Go.Operand.tmp 57), type := 4, pos := "law.go:48", after := #[{ on := 10, ground := Go.Ground.data }, { on := 6, ground := Go.Ground.chain }], guard := none }) (v := ?v11) rfl (by kernel_rfl) (by kernel_rfl) (by kernel_rfl) (fun _ _ _ h => h) (Or.inl ⟨by rfl, ?y11⟩) (by assumption) ?_
    case y11 => (intro w9 hSw; obtain ⟨e0, e1, e2⟩ := l3_up HX6.out hSw hw6; go_simp; try with_reducible rfl)
    try simp only [Act.put, List.setIfInBounds_toArray, List.set_cons_zero, List.set_cons_succ]
    refine wpAnyH_take (i := 12) (oi := { dst := some 59, op := Go.Op.move (Go.Operand.tmp 8), type := 32, pos := "law.go:48", after := #[{ on := 11, ground := Go.Ground.guard }], guard := some (11, true) }) (v := ?v12) rfl (by kernel_rfl) (by kernel_rfl) (by kernel_rfl) (fun _ _ _ h => h) (Or.inl ⟨by rfl, ?y12⟩) (by assumption) ?_
    case y12 => (intro w9 hSw; obtain ⟨e0, e1, e2⟩ := l3_up HX6.out hSw hw6; go_simp; try with_reducible rfl)
    try simp only [Act.put, List.setIfInBounds_toArray, List.set_cons_zero, List.set_cons_succ]
    refine wpAnyH_take (i := 13) (oi := { dst := some 60, op := Go.Op.move (Go.Operand.tmp 10), type := 32, pos := "law.go:48", after := #[{ on := 11, ground := Go.Ground.guard }], guard := some (11, true) }) (v := ?v13) rfl (by kernel_rfl) (by kernel_rfl) (by kernel_rfl) (fun _ _ _ h => h) (Or.inl ⟨by rfl, ?y13⟩) (by assumption) ?_
    case y13 => (intro w9 hSw; obtain ⟨e0, e1, e2⟩ := l3_up HX6.out hSw hw6; go_simp; try with_reducible rfl)
    try simp only [Act.put, List.setIfInBounds_toArray, List.set_cons_zero, List.set_cons_succ]
    refine wpAnyH_ready (rs := [14]) (by kernel_rfl) (by simp) ?_
    refine AllReadyH.cons (o := { dst := some 61, op := Go.Op.call { callee := Go.Callee.value (Go.Operand.func 16), args := #[Go.Operand.tmp 59, Go.Operand.tmp 60], argTypes := #[32, 32] }, type := 4, pos := "law.go:48", after := #[{ on := 12, ground := Go.Ground.data }, { on := 13, ground := Go.Ground.data }, { on := 11, ground := Go.Ground.chain }, { on := 11, ground := Go.Ground.guard }], guard := some (11, true) }) rfl (fun K hK => ?_) AllReadyH.nil
    (go_simp; go_at_call 16; refine (same_eq (strs_up HA6.out (World.drewN_below _ _ 1)) (strs_up HR6.out (World.drewN_below _ _ 1)) rfl).mono ?_; rintro e w7 ⟨rfl, hb7⟩; have HB7 : Hid (Below w6.heap.size w6 w7) := (World.drewN_below w6.heap.size w6 1).trans hb7; clear hb7)
    refine hK.out _ _ ?_ (fun hHeld => ?_)
    · exact HB7.out
    clear hK K
    try simp only [Act.put, List.setIfInBounds_toArray, List.set_cons_zero, List.set_cons_succ]
    refine wpAnyH_take (i := 15) (oi := { dst := some 62, op := Go.Op.pick (Go.Operand.tmp 58) (Go.Operand.tmp 61) (Go.Operand.const (Go.Value.bool false)), type := 4, pos := "law.go:48", after := #[{ on := 11, ground := Go.Ground.data }, { on := 14, ground := Go.Ground.data }], guard := none }) (v := ?v15) rfl (by kernel_rfl) (by kernel_rfl) (by kernel_rfl) (fun _ _ _ h => h) (Or.inl ⟨by rfl, ?y15⟩) (by assumption) ?_
    case y15 => (intro w9 hSw; obtain ⟨e0, e1, e2⟩ := l3_up HX6.out hSw hw6; go_simp; try with_reducible rfl)
    try simp only [Act.put, List.setIfInBounds_toArray, List.set_cons_zero, List.set_cons_succ]
    refine wpAnyH_take (i := 16) (oi := { dst := some 63, op := Go.Op.move (Go.Operand.tmp 62), type := 4, pos := "law.go:48", after := #[{ on := 15, ground := Go.Ground.data }, { on := 14, ground := Go.Ground.chain }], guard := none }) (v := ?v16) rfl (by kernel_rfl) (by kernel_rfl) (by kernel_rfl) (fun _ _ _ h => h) (Or.inl ⟨by rfl, ?y16⟩) (by assumption) ?_
    case y16 => (intro w9 hSw; obtain ⟨e0, e1, e2⟩ := l3_up HX6.out hSw hw6; go_simp; try with_reducible rfl)
    try simp only [Act.put, List.setIfInBounds_toArray, List.set_cons_zero, List.set_cons_succ]
    refine wpAnyH_take (i := 17) (oi := { dst := some 64, op := Go.Op.move (Go.Operand.tmp 12), type := 32, pos := "law.go:48", after := #[{ on := 16, ground := Go.Ground.guard }], guard := some (16, true) }) (v := ?v17) rfl (by kernel_rfl) (by kernel_rfl) (by kernel_rfl) (fun _ _ _ h => h) (Or.inl ⟨by rfl, ?y17⟩) (by assumption) ?_
    case y17 => (intro w9 hSw; obtain ⟨e0, e1, e2⟩ := l3_up HX6.out hSw hw6; go_simp; try with_reducible rfl)
    try simp only [Act.put, List.setIfInBounds_toArray, List.set_cons_zero, List.set_cons_succ]
    refine wpAnyH_take (i := 18) (oi := { dst := some 65, op := Go.Op.move (Go.Operand.tmp 14), type := 32, pos := "law.go:48", after := #[{ on := 16, ground := Go.Ground.guard }], guard := some (16, true) }) (v := ?v18) rfl (by kernel_rfl) (by kernel_rfl) (by kernel_rfl) (fun _ _ _ h => h) (Or.inl ⟨by rfl, ?y18⟩) (by assumption) ?_
    case y18 => (intro w9 hSw; obtain ⟨e0, e1, e2⟩ := l3_up HX6.out hSw hw6; go_simp; try with_reducible rfl)
    try simp only [Act.put, List.setIfInBounds_toArray, List.set_cons_zero, List.set_cons_succ]
    refine wpAnyH_ready (rs := [19]) (by kernel_rfl) (by simp) ?_
    refine AllReadyH.cons (o := { dst := some 66, op := Go.Op.call { callee := Go.Callee.value (Go.Operand.func 16), args := #[Go.Operand.tmp 64, Go.Operand.tmp 65], argTypes := #[32, 32] }, type := 4, pos := "law.go:48", after := #[{ on := 17, ground := Go.Ground.data }, { on := 18, ground := Go.Ground.data }, { on := 16, ground := Go.Ground.chain }, { on := 16, ground := Go.Ground.guard }], guard := some (16, true) }) rfl (fun K hK => ?_) AllReadyH.nil
    (go_simp; go_at_call 16; refine (same_eq (strs_up HX_6.out HB7.out) (strs_up HY_6.out HB7.out) rfl).mono ?_; rintro e w8 ⟨rfl, hb8⟩; have HB8 : Hid (Below w6.heap.size w6 w8) := HB7.out.trans (hb8.mono HB7.out.size); clear hb8)
    refine hK.out _ _ ?_ (fun hHeld => ?_)
    · exact HB8.out
    clear hK K
    try simp only [Act.put, List.setIfInBounds_toArray, List.set_cons_zero, List.set_cons_succ]
    refine wpAnyH_take (i := 20) (oi := { dst := some 67, op := Go.Op.pick (Go.Operand.tmp 63) (Go.Operand.tmp 66) (Go.Operand.const (Go.Value.bool false)), type := 4, pos := "law.go:48", after := #[{ on := 16, ground := Go.Ground.data }, { on := 19, ground := Go.Ground.data }], guard := none }) (v := ?v20) rfl (by kernel_rfl) (by kernel_rfl) (by kernel_rfl) (fun _ _ _ h => h) (Or.inl ⟨by rfl, ?y20⟩) (by assumption) ?_
    case y20 => (intro w9 hSw; obtain ⟨e0, e1, e2⟩ := l3_up HX6.out hSw hw6; go_simp; try with_reducible rfl)
    try simp only [Act.put, List.setIfInBounds_toArray, List.set_cons_zero, List.set_cons_succ]
    refine wpAnyH_take (i := 21) (oi := { dst := some 68, op := Go.Op.move (Go.Operand.tmp 67), type := 4, pos := "law.go:48", after := #[{ on := 20, ground := Go.Ground.data }, { on := 19, ground := Go.Ground.chain }], guard := none }) (v := ?v21) rfl (by kernel_rfl) (by kernel_rfl) (by kernel_rfl) (fun _ _ _ h => h) (Or.inl ⟨by rfl, ?y21⟩) (by assumption) ?_
    case y21 => (intro w9 hSw; obtain ⟨e0, e1, e2⟩ := l3_up HX6.out hSw hw6; go_simp; try with_reducible rfl)
    try simp only [Act.put, List.setIfInBounds_toArray, List.set_cons_zero, List.set_cons_succ]
    refine wpAnyH_take (i := 22) (oi := { dst := some 69, op := Go.Op.load 28 (Go.Operand.tmp 3), type := 28, pos := "law.go:48", after := #[{ on := 21, ground := Go.Ground.guard }], guard := some (21, true) }) (v := ?v22) rfl (by kernel_rfl) (by kernel_rfl) (by kernel_rfl) (fun _ _ _ h => h) (Or.inl ⟨by rfl, ?y22⟩) (by assumption) ?_
    case y22 => (intro w9 hSw; obtain ⟨e0, e1, e2⟩ := l3_up HX6.out hSw hw6; go_simp; try with_reducible rfl)
    try simp only [Act.put, List.setIfInBounds_toArray, List.set_cons_zero, List.set_cons_succ]
    refine wpAnyH_take (i := 24) (oi := { dst := some 71, op := Go.Op.load 28 (Go.Operand.tmp 3), type := 28, pos := "law.go:48", after := #[{ on := 21, ground := Go.Ground.guard }], guard := some (21, true) }) (v := ?v24) rfl (by kernel_rfl) (by kernel_rfl) (by kernel_rfl) (fun _ _ _ h => h) (Or.inl ⟨by rfl, ?y24⟩) (by assumption) ?_
    case y24 => (intro w9 hSw; obtain ⟨e0, e1, e2⟩ := l3_up HX6.out hSw hw6; go_simp; try with_reducible rfl)
    try simp only [Act.put, List.setIfInBounds_toArray, List.set_cons_zero, List.set_cons_succ]
    refine wpAnyH_ready (rs := [23]) (by kernel_rfl) (by simp) ?_
    refine AllReadyH.cons (o := { dst := some 70, op := Go.Op.call { callee := Go.Callee.value (Go.Operand.func 18), args := #[Go.Operand.tmp 69], argTypes := #[28] }, type := 39, pos := "law.go:48", after := #[{ on := 22, ground := Go.Ground.data }, { on := 21, ground := Go.Ground.chain }, { on := 21, ground := Go.Ground.guard }], guard := some (21, true) }) rfl (fun K hK => ?_) AllReadyH.nil
    (go_simp; go_at_call 18; refine (HCIN.out _ (HB6.out.trans (HB8.out.mono (by omega)))).mono ?_; rintro e w9 ⟨u9, rfl, hb9, hu9⟩; obtain ⟨ga, gca, rfl, _, _, _⟩ := SlIn.shape hu9; have HB9 : Hid (Below w6.heap.size w6 w9) := HB8.out.trans (hb9.mono HB8.out.size); have HC9 := Lib.hid hu9; clear hb9 hu9)
    refine hK.out _ _ ?_ (fun hHeld => ?_)
    · exact HB9.out
    clear hK K
    try simp only [Act.put, List.setIfInBounds_toArray, List.set_cons_zero, List.set_cons_succ]
    refine wpAnyH_ready (rs := [25]) (by kernel_rfl) (by simp) ?_
    refine AllReadyH.cons (o := { dst := some 72, op := Go.Op.call { callee := Go.Callee.value (Go.Operand.func 19), args := #[Go.Operand.tmp 71], argTypes := #[28] }, type := 39, pos := "law.go:48", after := #[{ on := 24, ground := Go.Ground.data }, { on := 23, ground := Go.Ground.chain }, { on := 21, ground := Go.Ground.guard }], guard := some (21, true) }) rfl (fun K hK => ?_) AllReadyH.nil
    (go_simp; go_at_call 19; refine (HCIR.out _ (HB6.out.trans (HB9.out.mono (by omega)))).mono ?_; rintro e w10 ⟨u10, rfl, hb10, hu10⟩; obtain ⟨ha, hca, rfl, _, _, _⟩ := SlIn.shape hu10; have HB10 : Hid (Below w6.heap.size w6 w10) := HB9.out.trans (hb10.mono HB9.out.size); have HC10 := Lib.hid (strss_up HC9.out hb10); have HD10 := Lib.hid hu10; clear hb10 hu10)
    refine hK.out _ _ ?_ (fun hHeld => ?_)
    · exact HB10.out
    clear hK K
    try simp only [Act.put, List.setIfInBounds_toArray, List.set_cons_zero, List.set_cons_succ]
    refine wpAnyH_ready (rs := [26]) (by kernel_rfl) (by simp) ?_
    refine AllReadyH.cons (o := { dst := some 73, op := Go.Op.call { callee := Go.Callee.value (Go.Operand.func 17), args := #[Go.Operand.tmp 70, Go.Operand.tmp 72], argTypes := #[39, 39] }, type := 4, pos := "law.go:48", after := #[{ on := 23, ground := Go.Ground.data }, { on := 25, ground := Go.Ground.data }, { on := 25, ground := Go.Ground.chain }, { on := 21, ground := Go.Ground.guard }], guard := some (21, true) }) rfl (fun K hK => ?_) AllReadyH.nil
    (go_simp; go_at_call 17; refine (lists_eq HC10.out HD10.out rfl).mono ?_; rintro e w11 ⟨rfl, hb11⟩; have HB11 : Hid (Below w6.heap.size w6 w11) := HB10.out.trans (hb11.mono HB10.out.size); clear hb11)
    refine hK.out _ _ ?_ (fun hHeld => ?_)
    · exact HB11.out
    clear hK K
    try simp only [Act.put, List.setIfInBounds_toArray, List.set_cons_zero, List.set_cons_succ]
    refine wpAnyH_take (i := 27) (oi := { dst := some 74, op := Go.Op.pick (Go.Operand.tmp 68) (Go.Operand.tmp 73) (Go.Operand.const (Go.Value.bool false)), type := 4, pos := "law.go:48", after := #[{ on := 21, ground := Go.Ground.data }, { on := 26, ground := Go.Ground.data }], guard := none }) (v := ?v27) rfl (by kernel_rfl) (by kernel_rfl) (by kernel_rfl) (fun _ _ _ h => h) (Or.inl ⟨by rfl, ?y27⟩) (by assumption) ?_
    case y27 => (intro w9 hSw; obtain ⟨e0, e1, e2⟩ := l3_up HX6.out hSw hw6; go_simp; try with_reducible rfl)
    try simp only [Act.put, List.setIfInBounds_toArray, List.set_cons_zero, List.set_cons_succ]
    refine wpAnyH_take (i := 28) (oi := { dst := some 6, op := Go.Op.assign (Go.Operand.tmp 74), type := 4, pos := "law.go:48", after := #[{ on := 27, ground := Go.Ground.data }, { on := 26, ground := Go.Ground.chain }, { on := 0, ground := Go.Ground.phase }, { on := 1, ground := Go.Ground.phase }, { on := 2, ground := Go.Ground.phase }, { on := 3, ground := Go.Ground.phase }, { on := 4, ground := Go.Ground.phase }, { on := 5, ground := Go.Ground.phase }, { on := 6, ground := Go.Ground.phase }, { on := 7, ground := Go.Ground.phase }, { on := 8, ground := Go.Ground.phase }, { on := 9, ground := Go.Ground.phase }, { on := 10, ground := Go.Ground.phase }, { on := 11, ground := Go.Ground.phase }, { on := 12, ground := Go.Ground.phase }, { on := 13, ground := Go.Ground.phase }, { on := 14, ground := Go.Ground.phase }, { on := 15, ground := Go.Ground.phase }, { on := 16, ground := Go.Ground.phase }, { on := 17, ground := Go.Ground.phase }, { on := 18, ground := Go.Ground.phase }, { on := 19, ground := Go.Ground.phase }, { on := 20, ground := Go.Ground.phase }, { on := 21, ground := Go.Ground.phase }, { on := 22, ground := Go.Ground.phase }, { on := 23, ground := Go.Ground.phase }, { on := 24, ground := Go.Ground.phase }, { on := 25, ground := Go.Ground.phase }, { on := 26, ground := Go.Ground.phase }, { on := 27, ground := Go.Ground.phase }], guard := none }) (v := ?v28) rfl (by kernel_rfl) (by kernel_rfl) (by kernel_rfl) (fun _ _ _ h => h) (Or.inl ⟨by rfl, ?y28⟩) (by assumption) ?_
    case y28 => (intro w9 hSw; obtain ⟨e0, e1, e2⟩ := l3_up HX6.out hSw hw6; go_simp; try with_reducible rfl)
    try simp only [Act.put, List.setIfInBounds_toArray, List.set_cons_zero, List.set_cons_succ]
    refine wpAnyH_done (by kernel_rfl) ?_ _
    go_wp2
    go_ret
    exact ⟨rfl, HB6.out.trans (HB11.out.mono (by omega))⟩
end

end Go.Proofs.YtihpoecdnchioaaGreatDoor
