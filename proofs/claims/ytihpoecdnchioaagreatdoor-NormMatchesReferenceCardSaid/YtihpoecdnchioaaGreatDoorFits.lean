/- The walks of fact.Fits and fact.Index (with slices.IndexFunc at facts). No conditions. -/
import Derived.Test.YtihpoecdnchioaaGreatDoorValid
namespace Go.Proofs.YtihpoecdnchioaaGreatDoor
open Go.RowKit

def inR (f : Fa) (c : Int) : Bool := decide (f.lo ≤ c) && decide (c ≤ f.hi)
def inRs : List Fa → List Int → Bool
  | [], [] => true
  | f :: d, c :: cs => inR f c && inRs d cs
  | _, _ => false
/-- a case fits a domain -/
def fitsD (d : List Fa) (c : List Int) : Bool := validD d && decide (c.length = d.length) && inRs d c

theorem inRs_drop (d : List Fa) (c : List Int) (k : Nat) (h : k < d.length) (h' : k < c.length) : inRs (d.drop k) (c.drop k) = (inR d[k] c[k] && inRs (d.drop (k + 1)) (c.drop (k + 1))) := by
  rw [List.drop_eq_getElem_cons h, List.drop_eq_getElem_cons h', inRs]

set_option maxRecDepth 100000 in
set_option maxHeartbeats 1000000 in
theorem fits_any (d : List Fa) (c : List Int) (v u : Value) (w : World) (B : Nat) (hB : B ≤ w.heap.size) (hd : DomIn w B d v) (hc : IntsIn w B c u) :
    Calls Tryz.prog 26 #[v, u] w fun e w' => e = .returned (.bool (fitsD d c)) ∧ Below w.heap.size w w' := by
  have hd0 := hd
  obtain ⟨u0, rfl, hd⟩ := hd
  obtain ⟨ad, cd, rfl, d1, d2, _⟩ := SlIn.shape hd
  obtain ⟨ac, cc, rfl, c1, c2, _⟩ := SlIn.shape hc
  unfold maxLen at d2 c2
  have HD := Lib.hid hd
  have HD0 := Lib.hid hd0
  have HC := Lib.hid hc
  have HR : Hid (fitsD d c = (validD d && decide (c.length = d.length) && inRs d c)) := rfl
  generalize fitsD d c = R at *
  clear hd hc hd0
  go_enter Tryz.func26, Tryz.ntmps26
  cases hv : validD d with
  | false =>
    have HS := Lib.hid (show R = false by rw [HR.out, hv]; rfl)
    go_wp2_with (go_at_call 43; refine (valid_any d _ _ B ?_ ?_).mono ?_; (simp; omega); exact DomIn.below ((Below.refl _ _).alloc (by omega) _) HD0.out; rintro e w2 ⟨rfl, hb2⟩)
    go_ret
    exact ⟨ret_bool HS.out.symm, ((Below.refl _ _).alloc (Nat.le_refl _) _).trans (hb2.mono (by simp))⟩
  | true =>
    by_cases hlen : c.length = d.length
    · have hl1 : ((c.length : Int) != d.length) = false := by simp [hlen]
      have HL := Lib.hid hlen
      have HS := Lib.hid (show R = inRs (d.drop 0) (c.drop 0) by rw [HR.out, hv, decide_eq_true hlen]; rfl)
      clear hlen
      go_wp2_with (go_at_call 43; refine (valid_any d _ _ B ?_ ?_).mono ?_; (simp; omega); exact DomIn.below ((Below.refl _ _).alloc (by omega) _) HD0.out; rintro e w2 ⟨rfl, hb2⟩; have q0 := (hb2.cell (p := ⟨w.heap.size, 0, none⟩) (by simp)).trans (show _ = some (Value.slice ad d.length cd) by rw [World.cell?_alloc_at _ _ _ _ rfl]; rfl); have hz2 := hb2.size; rw [World.size_alloc] at hz2)
      have HB := Lib.hid (((Below.refl w.heap.size w).alloc (Nat.le_refl _) (.cells #[.slice ad d.length cd] 24)).trans (hb2.mono (by simp)))
      clear hb2
      go_loopw [21] (fun i wr => ∃ k : Nat, k ≤ d.length ∧ i = .int .i64 k ∧ Hid (R = inRs (d.drop k) (c.drop k)) ∧ Below w.heap.size w wr ∧ w.heap.size < wr.heap.size) (fun i _ => d.length - (intOf i).toNat)
      case atStart => exact ⟨0, by omega, rfl, HS, HB.out, by omega⟩
      case round =>
        obtain ⟨k, hk, rfl, hin, hb, hsz⟩ := hrel
        by_cases hlt : k < d.length
        · have hlt' : k < c.length := by have := HL.out; omega
          obtain ⟨b, off, rfl, hbB, f0, f1, f2, f3, hz, wk, wl, wh⟩ := SlIn.at (HD.out.below FaR.kept (hb.mono hB)) k hlt
          obtain ⟨b', off', rfl, hbB', hcc⟩ := SlIn.one (HC.out.below (hb.mono hB)) k hlt'
          have hcc0 : b' < wr.heap.size := by omega
          have hin2 := hin.out
          rw [inRs_drop d c k hlt hlt'] at hin2
          generalize hfk : d[k] = f at *
          generalize hxk : c[k] = x at *
          have HI := Lib.hid hin2
          clear hin2 hin HR HS hfk hxk
          have hbe := hb.alloc (by omega) (.cells #[.string f.name, .int .i64 f.kind, .int .i64 f.lo, .int .i64 f.hi] 90)
          have HBE := Lib.hid hbe
          clear hbe
          by_cases g1 : x < f.lo
          · have g1d : decide (x < f.lo) = true := by simpa using g1
            have HS := Lib.hid (show R = false by rw [HI.out, inR, show decide (f.lo ≤ x) = false by simp; omega]; simp)
            go_wp2
            go_quiet (fail)
            go_wp2
            go_ret
            exact ⟨ret_bool HS.out.symm, HBE.out.trans (World.drewN_below _ _ _)⟩
          · have g1d : decide (x < f.lo) = false := by simpa using g1
            by_cases g2 : f.hi < x
            · have g2d : decide (f.hi < x) = true := by simpa using g2
              have HS := Lib.hid (show R = false by rw [HI.out, inR, show decide (x ≤ f.hi) = false by simp; omega]; simp)
              clear g1
              go_wp2
              go_quiet (fail)
              go_wp2
              go_ret
              exact ⟨ret_bool HS.out.symm, HBE.out.trans (World.drewN_below _ _ _)⟩
            · have g2d : decide (f.hi < x) = false := by simpa using g2
              have HS := Lib.hid (show R = inRs (d.drop (k + 1)) (c.drop (k + 1)) by rw [HI.out, inR, decide_eq_true (show f.lo ≤ x by omega), decide_eq_true (show x ≤ f.hi by omega)]; simp)
              clear g1 g2
              go_wp2
              go_quiet (fail)
              go_wp2
              go_roundw
              case rel => exact ⟨k + 1, by omega, by go_num, HS, HBE.out.trans (World.drewN_below _ _ _), by simp; omega⟩
              case measure => simp [intOf]; omega
        · have HS2 := Lib.hid (show R = true by
            have h0 := hin.out
            rw [List.drop_of_length_le (by omega), List.drop_of_length_le (by have := HL.out; omega)] at h0
            exact h0)
          clear hin
          go_wp2
          go_ret
          exact ⟨ret_bool HS2.out.symm, hb⟩
    · have hl1 : ((c.length : Int) != d.length) = true := by rw [bne_iff_ne]; omega
      have HS := Lib.hid (show R = false by rw [HR.out, decide_eq_false hlen]; simp)
      clear hlen
      go_wp2_with (go_at_call 43; refine (valid_any d _ _ B ?_ ?_).mono ?_; (simp; omega); exact DomIn.below ((Below.refl _ _).alloc (by omega) _) HD0.out; rintro e w2 ⟨rfl, hb2⟩; have q0 := (hb2.cell (p := ⟨w.heap.size, 0, none⟩) (by simp)).trans (show _ = some (Value.slice ad d.length cd) by rw [World.cell?_alloc_at _ _ _ _ rfl]; rfl); have hz2 := hb2.size; rw [World.size_alloc] at hz2)
      go_ret
      exact ⟨ret_bool HS.out.symm, ((Below.refl _ _).alloc (Nat.le_refl _) _).trans (hb2.mono (by simp))⟩

end Go.Proofs.YtihpoecdnchioaaGreatDoor
