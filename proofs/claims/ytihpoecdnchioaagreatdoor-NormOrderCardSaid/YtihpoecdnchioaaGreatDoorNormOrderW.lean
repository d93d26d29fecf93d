/- The walk of law14.NormOrder. No conditions. -/
import Derived.Test.YtihpoecdnchioaaGreatDoorHead
import Derived.Test.YtihpoecdnchioaaGreatDoorPl14
import Derived.Test.YtihpoecdnchioaaGreatDoorTurn
import Derived.Deep.RegionHeld3
import Derived.BigQuiet
namespace Go.Proofs.YtihpoecdnchioaaGreatDoor
open Go.RowKit Tj

theorem rev_res (d : List Fa) (ps : List Pv) (c : List Int) : (if askE d ps.reverse c = 0 then appliedL d ps.reverse c else []) = (if askE d ps c = 0 then appliedL d ps c else []).reverse := by
  rw [rev_ask]
  split
  · rename_i h; exact rev_applied h
  · rfl

/-- turned, its law's shape -/
theorem turned_shape (d : List Fa) (ps : List Pv) (v : Value) (w : World) (B : Nat) (hn : ps.length ≤ 1000) (hB : B ≤ w.heap.size) (hl : LawIn w B d ps v) :
    Calls Tryz.prog 22 #[v] w fun e w' => ∃ td tcd tp tcp tn tns tcs, e = .returned (.agg #[.slice td d.length tcd, .slice tp ps.length tcp, .slice tn tns tcs]) ∧ Below w.heap.size w w' ∧ LawIn w' w'.heap.size d ps.reverse (.agg #[.slice td d.length tcd, .slice tp ps.length tcp, .slice tn tns tcs]) := by
  refine (turned_any d ps v w B hn hB hl).mono ?_
  rintro e w' ⟨u, rfl, hb, h⟩
  obtain ⟨td, tcd, tp, tcp, tn, tns, tcs, rfl⟩ := law_shape h
  rw [List.length_reverse] at h ⊢
  exact ⟨td, tcd, tp, tcp, tn, tns, tcs, rfl, hb, h⟩

theorem appl_rev (d : List Fa) (ps : List Pv) (c : List Int) (v cv : Value) (w : World) (B : Nat) (hn : ps.length ≤ 1000) (hB : B ≤ w.heap.size) (hl : LawIn w B d ps.reverse v) (hex : ∀ p ∈ ps, p.except.length ≤ 30) (hsz : ∀ p ∈ ps, p.cond.size ≤ 1000000) (hc : IntsIn w B c cv) :
    Calls Tryz.prog 12 #[v, cv] w fun e w' => ∃ ao cap, e = .returned (.tuple #[.slice ao (if askE d ps c = 0 then appliedL d ps c else []).length cap, .int .i64 (askE d ps c)]) ∧ Below w.heap.size w w' ∧ StrsIn w' w'.heap.size (if askE d ps c = 0 then appliedL d ps c else []).reverse (.slice ao (if askE d ps c = 0 then appliedL d ps c else []).length cap) := by
  refine (appl_any d ps.reverse c v cv w B (by simpa using hn) hB hl (fun p hp => hex p (List.mem_reverse.1 hp)) (fun p hp => hsz p (List.mem_reverse.1 hp)) hc).mono ?_
  rintro e w' ⟨u, rfl, hb, h⟩
  rw [rev_res] at h
  rw [rev_ask]
  obtain ⟨ao, cap, rfl, _⟩ := SlIn.shape h
  rw [List.length_reverse] at h ⊢
  exact ⟨ao, cap, rfl, hb, h⟩

/-- how many circles there are -/
theorem circ_num (d : List Fa) (ps : List Pv) (v : Value) (w : World) (B : Nat) (n : Nat) (hn : ps.length ≤ 1000) (hB : B ≤ w.heap.size) (hl : LawIn w B d ps v) (hex : ∀ p ∈ ps, p.except.length ≤ 30) (hN : (circL ps).length = n) :
    Calls Tryz.prog 18 #[v] w fun e w' => ∃ ao cap, e = .returned (.slice ao n cap) ∧ Below w.heap.size w w' := by
  refine (circ_any d ps v w B hn hB hl hex).mono ?_
  rintro e w' ⟨u, rfl, hb, h⟩
  obtain ⟨ao, cap, rfl, _⟩ := SlIn.shape h
  rw [hN]
  exact ⟨ao, cap, rfl, hb⟩

theorem in_two {W : World} {B : Nat} {l : List ByteArray} {ao : Option Addr} {n cap : Nat} (h : StrsIn W B l.reverse (.slice ao n cap)) (i : Nat) (hi : i < l.length) : ∃ b off, ao = some ⟨b, off, none⟩ ∧ W.cell? ⟨b, off + (l.length - 1 - i), none⟩ = some (.string l[i]) := by
  obtain ⟨b, off, ha, _, hc⟩ := SlIn.one h (l.length - 1 - i) (by simp; omega)
  refine ⟨b, off, ha, ?_⟩
  rw [hc, List.getElem_reverse]
  congr 3
  omega

theorem ord_t {w5 W W' : World} (h : Hid (Below w5.heap.size w5 W)) (hb : Below W.heap.size W W') : Below w5.heap.size w5 W' := h.out.trans (hb.mono h.out.size)
theorem ord_keep {w5 W : World} (h : Hid (Below w5.heap.size w5 W)) {b1 b2 : Nat} (h1 : b1 < w5.heap.size) (h2 : b2 < w5.heap.size) {x1 x2 x3 x4 x5 x6 : Value}
    (hy : w5.cell? ⟨b1, 0, none⟩ = some x1 ∧ w5.cell? ⟨b1, 1, none⟩ = some x2 ∧ w5.cell? ⟨b1, 2, none⟩ = some x3 ∧ w5.cell? ⟨b2, 0, none⟩ = some x4 ∧ w5.cell? ⟨b2, 1, none⟩ = some x5 ∧ w5.cell? ⟨b2, 2, none⟩ = some x6) :
    W.cell? ⟨b1, 0, none⟩ = some x1 ∧ W.cell? ⟨b1, 1, none⟩ = some x2 ∧ W.cell? ⟨b1, 2, none⟩ = some x3 ∧ W.cell? ⟨b2, 0, none⟩ = some x4 ∧ W.cell? ⟨b2, 1, none⟩ = some x5 ∧ W.cell? ⟨b2, 2, none⟩ = some x6 := by
  obtain ⟨y1, y2, y3, y4, y5, y6⟩ := hy
  exact ⟨(h.out.cell (p := ⟨b1, 0, none⟩) h1).trans y1, (h.out.cell (p := ⟨b1, 1, none⟩) h1).trans y2, (h.out.cell (p := ⟨b1, 2, none⟩) h1).trans y3, (h.out.cell (p := ⟨b2, 0, none⟩) h2).trans y4, (h.out.cell (p := ⟨b2, 1, none⟩) h2).trans y5, (h.out.cell (p := ⟨b2, 2, none⟩) h2).trans y6⟩
theorem ord_b {w w5 W : World} {B : Nat} (h5 : Below B w w5) (h : Hid (Below w5.heap.size w5 W)) (hz : B ≤ w5.heap.size) : Below B w W := h5.trans (h.out.mono hz)
theorem ord_s {w5 W : World} {B : Nat} (h : Hid (Below w5.heap.size w5 W)) (hz : B ≤ w5.heap.size) : B ≤ W.heap.size := Nat.le_trans hz h.out.size
theorem ord_l {w3 w5 W : World} {B : Nat} {d : List Fa} {ps : List Pv} {v : Value} (hl : LawIn w3 B d ps v) (hm : Below B w3 w5) (h : Hid (Below w5.heap.size w5 W)) (hz : B ≤ w5.heap.size) : LawIn W B d ps v := hl.below (hm.trans (h.out.mono hz))

section
set_option maxRecDepth 100000 in
set_option maxHeartbeats 8000000 in
theorem normOrder_any {d : List Fa} {ps : List Pv} {c : List Int} {v cv : Value} (w : World) (hl : LawIn w w.heap.size d ps v) (hc : IntsIn w w.heap.size c cv) :
    Calls Tryz.prog 5 #[v, cv] w fun e w' => e = .returned (.bool true) ∧ Below w.heap.size w w' := by
  have hl0 := hl
  obtain ⟨u1, u2, asn, ns, cs, rfl, hd, hp⟩ := hl
  obtain ⟨ad, cd, rfl, d1, d2, _⟩ := SlIn.shape hd
  obtain ⟨ap, cp, rfl, p1, p2, _⟩ := SlIn.shape hp
  have hc0 := hc
  obtain ⟨ac, cc, rfl, c1, c2, _⟩ := SlIn.shape hc
  unfold maxLen at p2
  have hbw : Below w.heap.size w (w.alloc (.cells #[.slice ad d.length cd, .slice ap ps.length cp, .slice asn ns cs] 28)) := (Below.refl _ _).alloc (Nat.le_refl _) _
  have K0 := Blk.new w 28 #[.slice ad d.length cd, .slice ap ps.length cp, .slice asn ns cs]
  have x0 : (w.alloc (.cells #[.slice ad d.length cd, .slice ap ps.length cp, .slice asn ns cs] 28)).cell? ⟨w.heap.size, 0, none⟩ = some (.slice ad d.length cd) := K0.cell 0
  have x1 : (w.alloc (.cells #[.slice ad d.length cd, .slice ap ps.length cp, .slice asn ns cs] 28)).cell? ⟨w.heap.size, 1, none⟩ = some (.slice ap ps.length cp) := K0.cell 1
  have x2 : (w.alloc (.cells #[.slice ad d.length cd, .slice ap ps.length cp, .slice asn ns cs] 28)).cell? ⟨w.heap.size, 2, none⟩ = some (.slice asn ns cs) := K0.cell 2
  have HBW := Lib.hid hbw
  have HFEW := Lib.hid (fun W (hb : Below w.heap.size w W) => few_any d ps 40 _ W w.heap.size (by decide) (by decide) hb.size (hl0.below hb))
  cases hf : fewL d ps 40 with
  | false =>
    rw [hf] at HFEW
    clear hl0 hd hp hc hc0 hbw K0 hf
    go_enter Tryz.func5, Tryz.ntmps5
    go_wp2_with (first
      | (go_at_call 10; refine (head_any _).mono ?_; rintro e w1 ⟨rfl, hb1⟩; have y0 := (hb1.cell (p := ⟨w.heap.size, 0, none⟩) (by simp)).trans x0; have y1 := (hb1.cell (p := ⟨w.heap.size, 1, none⟩) (by simp)).trans x1; have y2 := (hb1.cell (p := ⟨w.heap.size, 2, none⟩) (by simp)).trans x2; have HB1 := Lib.hid (HBW.out.trans (hb1.mono (by simp))); have hz1 := hb1.size; simp only [World.size_alloc] at hz1; clear hb1)
      | (go_at_call 11; refine (HFEW.out _ HB1.out).mono ?_; rintro e w2 ⟨rfl, hb2⟩; have z0 := (hb2.cell (p := ⟨w.heap.size, 0, none⟩) (by simp; omega)).trans y0; have z1 := (hb2.cell (p := ⟨w.heap.size, 1, none⟩) (by simp; omega)).trans y1; have z2 := (hb2.cell (p := ⟨w.heap.size, 2, none⟩) (by simp; omega)).trans y2; have HB2 := Lib.hid (HB1.out.trans (hb2.mono (by omega))); have hz2 := hb2.size; clear hb2))
    go_ret
    exact ⟨rfl, HB2.out⟩
  | true =>
    obtain ⟨hn, hex, hsz⟩ := fewL_parts (n := 40) hf
    have hn2 : ps.length ≤ 1000 := by omega
    have hsz2 : ∀ p ∈ ps, p.cond.size ≤ 1000000 := fun p hp => Nat.le_trans (hsz p hp) (by decide)
    rw [hf] at HFEW
    have HAPP := Lib.hid (fun W (hb : Below w.heap.size w W) => appl_any d ps c _ _ W w.heap.size hn2 hb.size (hl0.below hb) hex hsz2 (hc0.below hb))
    have HAPR := Lib.hid (fun v' W (B : Nat) (hB : B ≤ W.heap.size) (hl' : LawIn W B d ps.reverse v') (hc' : IntsIn W B c (.slice ac c.length cc)) => appl_rev d ps c v' _ W B hn2 hB hl' hex hsz2 hc')
    have HTUR := Lib.hid (fun W (hb : Below w.heap.size w W) => turned_shape d ps _ W w.heap.size hn2 hb.size (hl0.below hb))
    have HCIL := Lib.hid (fun n (h : (circL ps).length = n) W (hb : Below w.heap.size w W) => circ_num d ps _ W w.heap.size n hn2 hb.size (hl0.below hb) hex h)
    have HCIR := Lib.hid (fun n (h : (circL ps).length = n) v' W (B : Nat) (hB : B ≤ W.heap.size) (hl' : LawIn W B d ps.reverse v') => circ_num d ps.reverse v' W B n (by simpa using hn2) hB hl' (fun p hp => hex p (List.mem_reverse.1 hp)) ((rev_circL ps).trans h))
    have HC := Lib.hid hc0
    generalize (circL ps).length = nc at *
    have HCL := Lib.hid (HCIL.out nc rfl)
    have HCR := Lib.hid (HCIR.out nc rfl)
    generalize (if askE d ps c = 0 then appliedL d ps c else []) = al at *
    generalize askE d ps c = er at *
    clear hl0 hd hp hc hc0 hbw K0 hf hex hsz hsz2 HCIL HCIR
    go_enter Tryz.func5, Tryz.ntmps5
    go_wp2_with (first
      | (go_at_call 10; refine (head_any _).mono ?_; rintro e w1 ⟨rfl, hb1⟩; have y0 := (hb1.cell (p := ⟨w.heap.size, 0, none⟩) (by simp)).trans x0; have y1 := (hb1.cell (p := ⟨w.heap.size, 1, none⟩) (by simp)).trans x1; have y2 := (hb1.cell (p := ⟨w.heap.size, 2, none⟩) (by simp)).trans x2; have HB1 := Lib.hid (HBW.out.trans (hb1.mono (by simp))); have hz1 := hb1.size; simp only [World.size_alloc] at hz1; clear hb1)
      | (go_at_call 11; refine (HFEW.out _ HB1.out).mono ?_; rintro e w2 ⟨rfl, hb2⟩; have z0 := (hb2.cell (p := ⟨w.heap.size, 0, none⟩) (by simp; omega)).trans y0; have z1 := (hb2.cell (p := ⟨w.heap.size, 1, none⟩) (by simp; omega)).trans y1; have z2 := (hb2.cell (p := ⟨w.heap.size, 2, none⟩) (by simp; omega)).trans y2; have HB2 := Lib.hid (HB1.out.trans (hb2.mono (by omega))); have hz2 := hb2.size; clear hb2)
      | (go_at_call 22; refine (HTUR.out _ HB2.out).mono ?_; rintro e w3 ⟨td, tcd, tp, tcp, tn, tns, tcs, rfl, hb3, hl3⟩; have t0 := (hb3.cell (p := ⟨w.heap.size, 0, none⟩) (by simp; omega)).trans z0; have t1 := (hb3.cell (p := ⟨w.heap.size, 1, none⟩) (by simp; omega)).trans z1; have t2 := (hb3.cell (p := ⟨w.heap.size, 2, none⟩) (by simp; omega)).trans z2; have HB3 := Lib.hid (HB2.out.trans (hb3.mono (by omega))); have hz3 := hb3.size; have HL3 := Lib.hid hl3; clear hb3 hl3; have hbx : Below w3.heap.size w3 (w3.alloc (.cells #[.slice td d.length tcd, .slice tp ps.length tcp, .slice tn tns tcs] 28)) := (Below.refl _ _).alloc (Nat.le_refl _) _; have K3 := Blk.new w3 28 #[.slice td d.length tcd, .slice tp ps.length tcp, .slice tn tns tcs]; have l0 := (hbx.cell (p := ⟨w.heap.size, 0, none⟩) (by simp; omega)).trans t0; have l1 := (hbx.cell (p := ⟨w.heap.size, 1, none⟩) (by simp; omega)).trans t1; have l2 := (hbx.cell (p := ⟨w.heap.size, 2, none⟩) (by simp; omega)).trans t2; have m0 : (w3.alloc (.cells #[.slice td d.length tcd, .slice tp ps.length tcp, .slice tn tns tcs] 28)).cell? ⟨w3.heap.size, 0, none⟩ = some (.slice td d.length tcd) := K3.cell 0; have m1 : (w3.alloc (.cells #[.slice td d.length tcd, .slice tp ps.length tcp, .slice tn tns tcs] 28)).cell? ⟨w3.heap.size, 1, none⟩ = some (.slice tp ps.length tcp) := K3.cell 1; have m2 : (w3.alloc (.cells #[.slice td d.length tcd, .slice tp ps.length tcp, .slice tn tns tcs] 28)).cell? ⟨w3.heap.size, 2, none⟩ = some (.slice tn tns tcs) := K3.cell 2; have HBX := Lib.hid (HB3.out.trans (hbx.mono (by omega))); have HM := Lib.hid hbx; clear hbx K3 t0 t1 t2))
    clear x0 x1 x2 y0 y1 y2 z0 z1 z2
    refine (HAPP.out _ HBX.out).mono ?_
    rintro e w4 ⟨u4, rfl, hb4, hu4⟩
    obtain ⟨aa, ca, rfl, a1, a2, _⟩ := SlIn.shape hu4
    have hz4 := hb4.size
    simp only [World.size_alloc] at hz4
    have l0' := (hb4.cell (p := ⟨w.heap.size, 0, none⟩) (by simp; omega)).trans l0
    have l1' := (hb4.cell (p := ⟨w.heap.size, 1, none⟩) (by simp; omega)).trans l1
    have l2' := (hb4.cell (p := ⟨w.heap.size, 2, none⟩) (by simp; omega)).trans l2
    have m0' := (hb4.cell (p := ⟨w3.heap.size, 0, none⟩) (by simp)).trans m0
    have m1' := (hb4.cell (p := ⟨w3.heap.size, 1, none⟩) (by simp)).trans m1
    have m2' := (hb4.cell (p := ⟨w3.heap.size, 2, none⟩) (by simp)).trans m2
    have HB4 := Lib.hid (HBX.out.trans (hb4.mono (by simp; omega)))
    have HM4 := Lib.hid (HM.out.trans (hb4.mono (by simp)))
    have HA4 := Lib.hid hu4
    clear hb4 hu4 l0 l1 l2 m0 m1 m2
    go_wp2_with (fail)
    refine (HAPR.out _ _ w3.heap.size (by omega) (HL3.out.below HM4.out) ((HC.out.below HB4.out).mono (OneR.mono _) (by omega))).mono ?_
    rintro e w5 ⟨ba, cb, rfl, hb5, hu5⟩
    have hz5 := hb5.size
    have n0 := (hb5.cell (p := ⟨w.heap.size, 0, none⟩) (by simp; omega)).trans l0'
    have n1 := (hb5.cell (p := ⟨w.heap.size, 1, none⟩) (by simp; omega)).trans l1'
    have n2 := (hb5.cell (p := ⟨w.heap.size, 2, none⟩) (by simp; omega)).trans l2'
    have o0 := (hb5.cell (p := ⟨w3.heap.size, 0, none⟩) (by simp; omega)).trans m0'
    have o1 := (hb5.cell (p := ⟨w3.heap.size, 1, none⟩) (by simp; omega)).trans m1'
    have o2 := (hb5.cell (p := ⟨w3.heap.size, 2, none⟩) (by simp; omega)).trans m2'
    have HB5 := Lib.hid (HB4.out.trans (hb5.mono (by omega)))
    have HM5 := Lib.hid (HM4.out.trans (hb5.mono (by omega)))
    have HA5 := Lib.hid (strs_up HA4.out hb5)
    have HBB := Lib.hid hu5
    have HY := Lib.hid (And.intro n0 (And.intro n1 (And.intro n2 (And.intro o0 (And.intro o1 o2)))))
    have HZ1 : Hid (w.heap.size < w5.heap.size) := by show _ < _; omega
    have HZ2 : Hid (w3.heap.size < w5.heap.size) := by show _ < _; omega
    have HW0 : Hid (Below w5.heap.size w5 w5.drew) := (Below.refl _ _).drew
    clear hb5 hu5 l0' l1' l2' m0' m1' m2' HA4
    go_upto_region 7 with (fail)
    go_cut [49] (fun s49 wx => s49 = .bool false ∧ Hid (Below w5.heap.size w5 wx))
    case first =>
      have hal : (al.length : Int) ≤ 9223372036854775807 := by unfold maxLen at a2; omega
      go_region_held3 (fun w' => w'.cell? ⟨w.heap.size, 0, none⟩ = some (.slice ad d.length cd) ∧ w'.cell? ⟨w.heap.size, 1, none⟩ = some (.slice ap ps.length cp) ∧ w'.cell? ⟨w.heap.size, 2, none⟩ = some (.slice asn ns cs) ∧
         w'.cell? ⟨w3.heap.size, 0, none⟩ = some (.slice td d.length tcd) ∧ w'.cell? ⟨w3.heap.size, 1, none⟩ = some (.slice tp ps.length tcp) ∧ w'.cell? ⟨w3.heap.size, 2, none⟩ = some (.slice tn tns tcs))
        (first
          | exact ord_keep HW0 HZ1.out HZ2.out HY.out
          | exact ord_keep HW6 HZ1.out HZ2.out HY.out
          | exact ord_keep HW7 HZ1.out HZ2.out HY.out)
        (first
          | (go_at_call_of 18 ap; refine (HCL.out _ ?_).mono ?_; exact ord_b HB5.out (by assumption) (by omega); rintro e w6 ⟨ca6, cc6, rfl, hb6⟩; have HW6 := Lib.hid (ord_t (w5 := w5) (by assumption) hb6); clear hb6)
          | (go_at_call_of 18 tp; refine (HCR.out _ _ w3.heap.size ?_ ?_).mono ?_; exact ord_s (w5 := w5) (by assumption) (by omega); exact ord_l HL3.out HM5.out (by assumption) (by omega); rintro e w7 ⟨ca7, cc7, rfl, hb7⟩; have HW7 := Lib.hid (ord_t (w5 := w5) (by assumption) hb7); clear hb7))
      all_goals
        go_wp2
        go_meet
        exact ⟨rfl, by assumption⟩
    case rest =>
      obtain ⟨rfl, hw9⟩ := hcut
      have HA9 := Lib.hid (strs_up HA5.out hw9.out)
      have HB9 := Lib.hid (strs_up HBB.out hw9.out)
      have HBE := Lib.hid (HB5.out.trans (hw9.out.mono (by omega)))
      clear n0 n1 n2 o0 o1 o2 HW0 HY hw9
      go_wp2
      go_loopw [11] (fun iv wr => ∃ i : Nat, i ≤ al.length ∧ iv = .int .i64 i ∧ Hid (∃ n, wr = wc.drewN n)) (fun iv _ => al.length - (intOf iv).toNat)
      case atStart => exact ⟨0, Nat.zero_le _, rfl, 0, rfl⟩
      case round =>
        obtain ⟨i, hi, rfl, hwr⟩ := hrel
        by_cases hlt : i < al.length
        · obtain ⟨b1, o1, rfl, _, c1⟩ := SlIn.one HA9.out i hlt
          obtain ⟨b2, o2, rfl, c2⟩ := in_two HB9.out i hlt
          have e1 : wr.cell? ⟨b1, o1 + i, none⟩ = some (.string al[i]) := by obtain ⟨n, rfl⟩ := hwr.out; exact c1
          have e2 : wr.cell? ⟨b2, o2 + (al.length - 1 - i), none⟩ = some (.string al[i]) := by obtain ⟨n, rfl⟩ := hwr.out; exact c2
          generalize al[i] = s at *
          have i0 : (0 : Int) ≤ (i : Int) := Int.natCast_nonneg _
          have i1 : (i : Int) < (al.length : Int) := by omega
          have hal : (al.length : Int) ≤ 9223372036854775807 := by unfold maxLen at a2; omega
          have j1 : IntKind.i64.wrap ((al.length : Int) - 1) = (al.length : Int) - 1 := IntWalk.i64_in _ (by omega)
          have j2 : IntKind.i64.wrap ((al.length : Int) - 1 - (i : Int)) = (al.length : Int) - 1 - (i : Int) := IntWalk.i64_in _ (by omega)
          have j3 : (0 : Int) ≤ (al.length : Int) - 1 - (i : Int) := by omega
          have j4 : (al.length : Int) - 1 - (i : Int) < (al.length : Int) := by omega
          have j5 : ((al.length : Int) - 1 - (i : Int)).toNat = al.length - 1 - i := by omega
          have HWR := hwr
          clear c1 c2 hwr
          go_wp2
          go_quiet (fail)
          clear j1 j2 j3 j4 j5
          go_wp2
          go_roundw
          case rel => exact ⟨i + 1, by omega, by go_num, drew_more HWR.out⟩
          case measure => simp [intOf]; omega
        · have HWR : Hid (Below w.heap.size w wr) := by obtain ⟨n, rfl⟩ := hwr.out; exact HBE.out.trans (World.drewN_below _ _ _)
          clear hwr
          go_wp2
          go_ret
          exact ⟨rfl, HWR.out⟩
end

end Go.Proofs.YtihpoecdnchioaaGreatDoor
