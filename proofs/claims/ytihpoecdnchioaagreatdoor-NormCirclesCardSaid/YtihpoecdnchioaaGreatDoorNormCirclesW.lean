/- The walk of law14.NormCircles. No conditions. -/
import Derived.Test.YtihpoecdnchioaaGreatDoorHead
import Derived.Test.YtihpoecdnchioaaGreatDoorPl14
import Derived.BigQuiet
namespace Go.Proofs.YtihpoecdnchioaaGreatDoor
open Go.RowKit Tj

def goneC (gone : List Bool) : Array Value := (gone.map Value.bool).toArray
theorem gone_cell {W : World} {gb : Nat} {t : TypeId} {gone : List Bool} (h : Blk W gb t (goneC gone)) (i : Nat) (hi : i < gone.length) : W.cell? ⟨gb, i, none⟩ = some (.bool (gone.getD i false)) := by
  rw [h.cell i]
  simp [goneC, List.getD_eq_getElem?_getD, hi]
theorem gone_made (n : Nat) : madeCells #[Value.bool false] n = goneC (List.replicate n false) := by
  refine Array.ext (by simp [size_madeCells, goneC]) fun i h1 h2 => ?_
  have : (madeCells #[Value.bool false] n)[i]? = some (.bool false) := by
    simp [size_madeCells] at h1
    simp [madeCells, h1, Nat.mod_one]
  rw [Array.getElem?_eq_getElem h1] at this
  rw [Option.some.inj this]
  simp [goneC]
theorem gone_store (gone : List Bool) (i : Nat) : (goneC gone).setIfInBounds i (.bool true) = goneC (gone.set i true) := by
  simp [goneC, List.map_set]
theorem makeGone (n : Nat) (h : n ≤ 10000) (w : World) : (Instr.makeSlice 55 (.int .i64 (n : Int)) (.int .i64 (n : Int))).run Tryz.prog w = .ok (.slice (some ⟨w.heap.size, 0, none⟩) n n) (w.alloc (.cells (goneC (List.replicate n false)) 4)) := by
  rw [← gone_made]
  exact run_make_row' 55 4 (.bool false) 1 Tryz.underlying55 (by kernel_rfl) rfl .i64 .i64 n (by omega) (by omega) w

/-- what the inner loop has seen -/
def partF (ps : List Pv) (gone : List Bool) (i k : Nat) : Bool := !gone.getD i false && (List.range k).all fun k => gone.getD k false || !excB ps k i
theorem partF_succ (ps : List Pv) (gone : List Bool) (i k : Nat) : partF ps gone i (k + 1) = (partF ps gone i k && (gone.getD k false || !excB ps k i)) := by
  unfold partF
  rw [List.range_succ, List.all_append, List.all_cons, List.all_nil, Bool.and_true, Bool.and_assoc]
theorem partF_end (ps : List Pv) (gone : List Bool) (i : Nat) : partF ps gone i ps.length = freeB ps gone i := rfl
theorem partF_false {ps : List Pv} {gone : List Bool} {i k : Nat} (hk : k ≤ ps.length) (h : partF ps gone i k = false) : freeB ps gone i = false := by
  rw [Bool.eq_false_iff]
  intro hf
  rw [← Bool.not_eq_true] at h
  apply h
  unfold freeB at hf
  unfold partF
  rw [Bool.and_eq_true, List.all_eq_true] at hf ⊢
  exact ⟨hf.1, fun x hx => hf.2 x (List.mem_range.2 (Nat.lt_of_lt_of_le (List.mem_range.1 hx) hk))⟩
theorem freeB_not_gone {ps : List Pv} {gone : List Bool} {i : Nat} (h : freeB ps gone i = true) : gone.getD i false = false := by
  unfold freeB at h
  rw [Bool.and_eq_true, Bool.not_eq_true'] at h
  exact h.1

def bOf : Value → Nat | .bool true => 1 | _ => 0

theorem in_q' {W : World} {B : Nat} {l : List ByteArray} {s : ByteArray} {v : Value} {b : Bool} (h : StrsIn W B l v) (hb : inB l s = b) (q : Nat) : Calls Tryz.prog 21 #[v, .string s] (W.drewN q) fun e w' => e = .returned (.bool b) ∧ ∃ n, w' = (W.drewN q).drewN n := by
  refine (in_any l s v (W.drewN q) B (h.below (World.drewN_below _ _ _))).mono ?_
  rintro e w' ⟨rfl, rfl⟩
  exact ⟨by rw [hb], 0, rfl⟩

section
set_option maxRecDepth 100000 in
set_option maxHeartbeats 8000000 in
theorem normCircles_any {d : List Fa} {ps : List Pv} {v : Value} (w : World) (hl : LawIn w w.heap.size d ps v) :
    Calls Tryz.prog 7 #[v] w fun e w' => e = .returned (.bool true) ∧ Below w.heap.size w w' := by
  have hl0 := hl
  obtain ⟨u1, u2, asn, ns, cs, rfl, hd, hp⟩ := hl
  obtain ⟨ad, cd, rfl, d1, d2, _⟩ := SlIn.shape hd
  obtain ⟨ap, cp, rfl, p1, p2, _⟩ := SlIn.shape hp
  unfold maxLen at p2
  have hbw : Below w.heap.size w (w.alloc (.cells #[.slice ad d.length cd, .slice ap ps.length cp, .slice asn ns cs] 28)) := (Below.refl _ _).alloc (Nat.le_refl _) _
  have K0 := Blk.new w 28 #[.slice ad d.length cd, .slice ap ps.length cp, .slice asn ns cs]
  have x0 : (w.alloc (.cells #[.slice ad d.length cd, .slice ap ps.length cp, .slice asn ns cs] 28)).cell? ⟨w.heap.size, 0, none⟩ = some (.slice ad d.length cd) := K0.cell 0
  have x1 : (w.alloc (.cells #[.slice ad d.length cd, .slice ap ps.length cp, .slice asn ns cs] 28)).cell? ⟨w.heap.size, 1, none⟩ = some (.slice ap ps.length cp) := K0.cell 1
  have x2 : (w.alloc (.cells #[.slice ad d.length cd, .slice ap ps.length cp, .slice asn ns cs] 28)).cell? ⟨w.heap.size, 2, none⟩ = some (.slice asn ns cs) := K0.cell 2
  have HBW := Lib.hid hbw
  have HFEW := Lib.hid (fun W (hb : Below w.heap.size w W) => few_any d ps 30 _ W w.heap.size (by decide) (by decide) hb.size (hl0.below hb))
  cases hf : fewL d ps 30 with
  | false =>
    rw [hf] at HFEW
    clear hl0 hd hp hbw K0 hf
    go_enter Tryz.func7, Tryz.ntmps7
    go_wp2_with (first
      | (go_at_call 10; refine (head_any _).mono ?_; rintro e w1 ⟨rfl, hb1⟩; have y0 := (hb1.cell (p := ⟨w.heap.size, 0, none⟩) (by simp)).trans x0; have y1 := (hb1.cell (p := ⟨w.heap.size, 1, none⟩) (by simp)).trans x1; have y2 := (hb1.cell (p := ⟨w.heap.size, 2, none⟩) (by simp)).trans x2; have HB1 := Lib.hid (HBW.out.trans (hb1.mono (by simp))); have hz1 := hb1.size; simp only [World.size_alloc] at hz1; clear hb1)
      | (go_at_call 11; refine (HFEW.out _ HB1.out).mono ?_; rintro e w2 ⟨rfl, hb2⟩; have z0 := (hb2.cell (p := ⟨w.heap.size, 0, none⟩) (by simp; omega)).trans y0; have z1 := (hb2.cell (p := ⟨w.heap.size, 1, none⟩) (by simp; omega)).trans y1; have z2 := (hb2.cell (p := ⟨w.heap.size, 2, none⟩) (by simp; omega)).trans y2; have HB2 := Lib.hid (HB1.out.trans (hb2.mono (by omega))); have hz2 := hb2.size; clear hb2))
    go_ret
    exact ⟨rfl, HB2.out⟩
  | true =>
    obtain ⟨hn, hex, hsz⟩ := fewL_parts (n := 30) hf
    rw [hf] at HFEW
    have HCIR := Lib.hid (fun W (hb : Below w.heap.size w W) => circ_any d ps _ W w.heap.size (by omega) hb.size (hl0.below hb) hex)
    have HDIF := Lib.hid (fun W (hb : Below w.heap.size w W) => diff_any d ps _ W w.heap.size hb.size (hl0.below hb))
    have hmk := fun w => makeGone ps.length (by omega) w
    have HP := Lib.hid hp
    have HCM := Lib.hid (fun (gone : List Bool) (h : GoneI ps gone) l (hl : l ∈ circL ps) s (hs : s ∈ l) => circ_member h hl hs)
    have HZ := Lib.hid (fun (gone : List Bool) (hok : okP ps = true) (h : GoneI ps gone) (he : ∀ i, i < ps.length → freeB ps gone i = false) => circ_zero ((okP_iff ps).1 hok) h he)
    have HNO : Hid (okP ps = false → circL ps = []) := fun h => by unfold circL; rw [h]; rfl
    generalize circL ps = cl at *
    clear hl0 hd hp hbw K0 hf hex hsz
    go_enter Tryz.func7, Tryz.ntmps7
    go_wp2_with (first
      | (go_at_call 10; refine (head_any _).mono ?_; rintro e w1 ⟨rfl, hb1⟩; have y0 := (hb1.cell (p := ⟨w.heap.size, 0, none⟩) (by simp)).trans x0; have y1 := (hb1.cell (p := ⟨w.heap.size, 1, none⟩) (by simp)).trans x1; have y2 := (hb1.cell (p := ⟨w.heap.size, 2, none⟩) (by simp)).trans x2; have HB1 := Lib.hid (HBW.out.trans (hb1.mono (by simp))); have hz1 := hb1.size; simp only [World.size_alloc] at hz1; clear hb1)
      | (go_at_call 11; refine (HFEW.out _ HB1.out).mono ?_; rintro e w2 ⟨rfl, hb2⟩; have z0 := (hb2.cell (p := ⟨w.heap.size, 0, none⟩) (by simp; omega)).trans y0; have z1 := (hb2.cell (p := ⟨w.heap.size, 1, none⟩) (by simp; omega)).trans y1; have z2 := (hb2.cell (p := ⟨w.heap.size, 2, none⟩) (by simp; omega)).trans y2; have HB2 := Lib.hid (HB1.out.trans (hb2.mono (by omega))); have hz2 := hb2.size; clear hb2)
      | (go_at_call 18; refine (HCIR.out _ HB2.out).mono ?_; rintro e w3 ⟨u, rfl, hb3, hu⟩; obtain ⟨au, cu, rfl, a1, a2, _⟩ := SlIn.shape hu; have t0 := (hb3.cell (p := ⟨w.heap.size, 0, none⟩) (by simp; omega)).trans z0; have t1 := (hb3.cell (p := ⟨w.heap.size, 1, none⟩) (by simp; omega)).trans z1; have t2 := (hb3.cell (p := ⟨w.heap.size, 2, none⟩) (by simp; omega)).trans z2; have HB3 := Lib.hid (HB2.out.trans (hb3.mono (by omega))); have hz3 := hb3.size; have HCL := Lib.hid hu; clear hb3 hu))
    unfold maxLen at a2
    clear x0 x1 x2 y0 y1 y2 z0 z1 z2
    go_loopw [7, 8] (fun lv av wr => ∃ (gone : List Bool) (ag : Bool), lv = .int .i64 (leftN gone : Nat) ∧ av = .bool ag ∧ Hid (GoneI ps gone) ∧ Hid (ag = false → ∀ i, i < ps.length → freeB ps gone i = false) ∧ Hid (Blk wr w3.heap.size 4 (goneC gone)) ∧ Hid (Below w3.heap.size w3 wr)) (fun lv av _ => (intOf lv).toNat + bOf av)
    case atStart => exact ⟨List.replicate ps.length false, true, by rw [leftN_start], rfl, gone_start ps, (fun h => by cases h), Blk.new w3 _ _, (Below.refl _ _).alloc (Nat.le_refl _) _⟩
    case round =>
      rename World => wA
      obtain ⟨gone, ag, rfl, rfl, hgi, hend, hblk, hbel⟩ := hrel
      cases ag with
      | true =>
        have HGI := hgi
        have HBLK := hblk
        have HBEL := hbel
        clear hgi hend hblk hbel
        go_wp2
        go_loopw [7, 8, 9] (fun lv av iv wr => ∃ (g2 : List Bool) (ag : Bool) (i : Nat), i ≤ ps.length ∧ iv = .int .i64 i ∧ lv = .int .i64 (leftN g2 : Nat) ∧ av = .bool ag ∧ Hid (leftN g2 ≤ leftN gone ∧ (ag = true → leftN g2 < leftN gone)) ∧
          Hid (ag = false → ∀ j, j < i → freeB ps g2 j = false) ∧ Hid (GoneI ps g2) ∧ Hid (Blk wr w3.heap.size 4 (goneC g2)) ∧ Hid (Below w3.heap.size w3 wr)) (fun _ _ iv _ => ps.length - (intOf iv).toNat)
        case atStart => exact ⟨gone, false, 0, Nat.zero_le _, rfl, rfl, rfl, ⟨Nat.le_refl _, fun h => by cases h⟩, (fun _ j hj => by omega), HGI, HBLK, HBEL⟩
        case round =>
          rename World => wB
          obtain ⟨g2, ag, i, hi, rfl, rfl, rfl, hle, hfr, hgi, hblk, hbel⟩ := hrel
          by_cases hlt : i < ps.length
          · have q1 := (hbel.out.cell (p := ⟨w.heap.size, 1, none⟩) (by simp; omega)).trans t1
            have cg := gone_cell hblk.out i (by rw [hgi.out.len]; exact hlt)
            have hi0 : (0 : Int) ≤ (i : Int) := Int.natCast_nonneg _
            have hi1 : (i : Int) < (ps.length : Int) := by omega
            have hb0 : Below w.heap.size w wB := HB3.out.trans (hbel.out.mono (by omega))
            obtain ⟨gv, hgv⟩ : ∃ gv, g2.getD i false = gv := ⟨_, rfl⟩
            have HP0 : Hid (partF ps g2 i 0 = !gv) := by show _ = _; rw [← hgv]; unfold partF; simp
            rw [hgv] at cg
            have HLE := hle
            have HFR := hfr
            have HGI2 := hgi
            have HBLK2 := hblk
            have HBEL2 := hbel
            have HB0 := Lib.hid hb0
            clear hle hfr hgi hblk hbel hb0 hgv
            go_wp2
            go_loopw [10, 11] (fun fv kv wr => ∃ k : Nat, k ≤ ps.length ∧ kv = .int .i64 k ∧ fv = .bool (partF ps g2 i k) ∧ Hid (∃ q, wr = wB.drewN q)) (fun _ kv _ => ps.length - (intOf kv).toNat)
            case atStart => exact ⟨0, Nat.zero_le _, rfl, by rw [HP0.out], 0, rfl⟩
            case round =>
              obtain ⟨k, hk, rfl, rfl, hwr⟩ := hrel
              have HBLKr : Hid (Blk wr w3.heap.size 4 (goneC g2)) := by obtain ⟨q, rfl⟩ := hwr.out; exact HBLK2
              have HBELr : Hid (Below w3.heap.size w3 wr) := by obtain ⟨q, rfl⟩ := hwr.out; exact HBEL2.out.trans (World.drewN_below _ _ _)
              have HB0r : Hid (Below w.heap.size w wr) := by obtain ⟨q, rfl⟩ := hwr.out; exact HB0.out.trans (World.drewN_below _ _ _)
              have HWR := hwr
              have r1 := (HBELr.out.cell (p := ⟨w.heap.size, 1, none⟩) (by simp; omega)).trans t1
              clear hwr q1 cg
              by_cases hkl : k < ps.length
              · cases hpf : partF ps g2 i k with
                | false =>
                  have HF := Lib.hid (partF_false (by omega) hpf)
                  clear hpf
                  go_wp2
                  go_roundw
                  case rel => exact ⟨g2, ag, i + 1, by omega, by go_num, rfl, rfl, HLE, (fun h j hj => by
                    by_cases e : j < i
                    · exact HFR.out h j e
                    · have : j = i := by omega
                      subst this
                      exact HF.out), HGI2, HBLKr, HBELr⟩
                  case measure => simp [intOf]; omega
                | true =>
                  have cgk := gone_cell HBLKr.out k (by rw [HGI2.out.len]; exact hkl)
                  have hk0 : (0 : Int) ≤ (k : Int) := Int.natCast_nonneg _
                  have hk1 : (k : Int) < (ps.length : Int) := by omega
                  have hps := partF_succ ps g2 i k
                  rw [hpf, Bool.true_and] at hps
                  cases hg : g2.getD k false with
                  | true =>
                    rw [hg] at cgk hps
                    have HS := Lib.hid hps
                    clear hps hpf hg
                    go_wp2
                    go_quiet (fail)
                    go_wp2
                    go_roundw
                    case rel => exact ⟨k + 1, by omega, by go_num, by rw [HS.out]; rfl, drew_more HWR.out⟩
                    case measure => simp [intOf]; omega
                  | false =>
                    rw [hg, Bool.false_or] at hps
                    rw [hg] at cgk
                    obtain ⟨b, off, rfl, hbB, ak, ck, ae, ce, hr, _, he, _⟩ := SlIn.at HP.out k hkl
                    obtain ⟨_, _, ak2, ck2, ae2, ce2, hr2, _⟩ := SlIn.get HP.out i hlt
                    have ek := (HB0r.out.cell (p := ⟨b, off + k * 23 + 10, none⟩) (by simp; omega)).trans (hr 10 _ rfl)
                    have ei := (HB0r.out.cell (p := ⟨b, off + i * 23 + 0, none⟩) (by simp; omega)).trans (hr2 0 _ rfl)
                    rw [Nat.add_zero] at ei
                    have hx : excB ps k i = inB ps[k].except ps[i].id := by unfold excB; rw [idAt_eq hlt]; simp [List.getD_eq_getElem?_getD, hkl]
                    rw [hx] at hps
                    have hE := (he.below HB0r.out)
                    generalize ps[k].except = pe at *
                    generalize ps[i].id = pid at *
                    obtain ⟨xe, hxe⟩ : ∃ xe, inB pe pid = xe := ⟨_, rfl⟩
                    rw [hxe] at hps
                    have CE := fun n => Lib.hid (in_q' (s := pid) hE hxe n)
                    have HS := Lib.hid hps
                    clear hps hpf hg hr hr2 he hx hE hxe
                    cases xe with
                    | false =>
                      go_wp2
                      go_quiet ((go_at_call 21; exact Calls.quiet_of (CE _).out))
                      go_wp2
                      go_roundw
                      case rel => exact ⟨k + 1, by omega, by go_num, by rw [HS.out]; rfl, drew_more HWR.out⟩
                      case measure => simp [intOf]; omega
                    | true =>
                      go_wp2
                      go_quiet ((go_at_call 21; exact Calls.quiet_of (CE _).out))
                      go_wp2
                      go_roundw
                      case rel => exact ⟨k + 1, by omega, by go_num, by rw [HS.out]; rfl, drew_more HWR.out⟩
                      case measure => simp [intOf]; omega
              · have hkn : k = ps.length := by omega
                subst hkn
                cases hpf : partF ps g2 i ps.length with
                | false =>
                  have HF := Lib.hid (partF_false (Nat.le_refl _) hpf)
                  clear hpf
                  go_wp2
                  go_roundw
                  case rel => exact ⟨g2, ag, i + 1, by omega, by go_num, rfl, rfl, HLE, (fun h j hj => by
                    by_cases e : j < i
                    · exact HFR.out h j e
                    · have : j = i := by omega
                      subst this
                      exact HF.out), HGI2, HBLKr, HBELr⟩
                  case measure => simp [intOf]; omega
                | true =>
                  have hng := freeB_not_gone (show freeB ps g2 i = true from hpf)
                  have HLS := Lib.hid (leftN_set g2 i (by rw [HGI2.out.len]; exact hlt) hng)
                  have HGS := Lib.hid (gone_step HGI2.out hlt hpf)
                  have cg2 := gone_cell HBLKr.out i (by rw [HGI2.out.len]; exact hlt)
                  have fz := HBLKr.out.frozen i
                  have HBS : Hid (Blk (wr.setCell ⟨w3.heap.size, i, none⟩ (.bool true)) w3.heap.size 4 (goneC (g2.set i true))) := by
                    have h := HBLKr.out.set i (.bool true)
                    rw [gone_store] at h
                    exact h
                  have HBLS : Hid (Below w3.heap.size w3 (wr.setCell ⟨w3.heap.size, i, none⟩ (.bool true))) := HBELr.out.setCell (p := ⟨w3.heap.size, i, none⟩) (Nat.le_refl _) _
                  have hl1 : (1 : Int) ≤ (leftN g2 : Int) := by have h := HLS.out; omega
                  have hl2 : (leftN g2 : Int) ≤ 1000 := by have h := leftN_le g2; rw [HGI2.out.len] at h; omega
                  clear hpf hng
                  go_wp2
                  go_roundw
                  case rel => exact ⟨g2.set i true, true, i + 1, by omega, by go_num, by have h := HLS.out; congr 1; omega, rfl, (have h := HLS.out; have h2 := HLE.out; ⟨by omega, fun _ => by omega⟩), (fun h => by cases h), HGS, HBS, HBLS⟩
                  case measure => simp [intOf]; omega
          · have hin : i = ps.length := by omega
            subst hin
            have HLE := hle
            have HFR := hfr
            have HGI2 := hgi
            have HBLK2 := hblk
            have HBEL2 := hbel
            clear hle hfr hgi hblk hbel
            go_wp2
            go_roundw
            case rel => exact ⟨g2, ag, rfl, rfl, HGI2, HFR, HBLK2, HBEL2⟩
            case measure =>
              have h := HLE.out
              cases ag with
              | true => have := h.2 rfl; simp [intOf, bOf]; omega
              | false => have := h.1; simp [intOf, bOf]; omega
      | false =>
        have HGI := hgi
        have HBLK := hblk
        have HBEL := hbel
        have HEND := Lib.hid (hend.out rfl)
        clear hgi hend hblk hbel
        have q0 := (HBEL.out.cell (p := ⟨w.heap.size, 0, none⟩) (by simp; omega)).trans t0
        have q1 := (HBEL.out.cell (p := ⟨w.heap.size, 1, none⟩) (by simp; omega)).trans t1
        have q2 := (HBEL.out.cell (p := ⟨w.heap.size, 2, none⟩) (by simp; omega)).trans t2
        have HBA : Hid (Below w.heap.size w wA) := HB3.out.trans (HBEL.out.mono (by omega))
        have hsA := HBEL.out.size
        have hgb := HBLK.out.lt
        cases hok : okP ps with
        | false =>
          have hcl := HNO.out hok
          subst hcl
          rw [hok] at HDIF
          clear hok
          go_wp2_with (go_at_call 23; refine (HDIF.out _ HBA.out).mono ?_; rintro e w4 ⟨rfl, hb4⟩)
          go_ret
          exact ⟨rfl, HBA.out.trans (hb4.mono (by omega))⟩
        | true =>
          have HZR := Lib.hid (HZ.out gone hok HGI.out HEND.out)
          have HCG := Lib.hid (HCM.out gone HGI.out)
          rw [hok] at HDIF
          clear hok
          have HCLA := Lib.hid (strss_up HCL.out HBEL.out)
          go_wp2_with (go_at_call 23; refine (HDIF.out _ HBA.out).mono ?_; rintro e w4 ⟨rfl, hb4⟩; have s1 := (hb4.cell (p := ⟨w.heap.size, 1, none⟩) (by simp; omega)).trans q1; have HCL4 := Lib.hid (strss_up HCLA.out hb4); have HBLK4 := Lib.hid (HBLK.out.below hb4); have HB4 := Lib.hid (HBA.out.trans (hb4.mono (by omega))); have hz4 := hb4.size; clear hb4)
          clear q0 q1 q2 t0 t1 t2
          go_loopw [12] (fun av wr => ∃ a : Nat, a ≤ cl.length ∧ av = .int .i64 a ∧ Hid (Below w4.heap.size w4 wr)) (fun av _ => cl.length - (intOf av).toNat)
          case atStart => exact ⟨0, Nat.zero_le _, rfl, Below.refl _ _⟩
          case round =>
            rename World => wD
            obtain ⟨a, ha, rfl, hbD⟩ := hrel
            by_cases hal : a < cl.length
            · obtain ⟨ub, uo, ra, rc, rfl, hub, hrow, hrin⟩ := SlIn.row HCL4.out a hal
              have hmem : cl[a] ∈ cl := List.getElem_mem hal
              have HCGa := Lib.hid (HCG.out cl[a] hmem)
              have ha0 : (0 : Int) ≤ (a : Int) := Int.natCast_nonneg _
              have ha1 : (a : Int) < (cl.length : Int) := by omega
              generalize cl[a] = g at *
              obtain ⟨_, _, hgc1, hgc2, hgc3, _⟩ := SlIn.shape hrin
              have HRI := Lib.hid hrin
              have hgl : (g.length : Int) ≤ 9223372036854775807 := by obtain ⟨_, _, _, h1, h2, _⟩ := SlIn.shape HRI.out; unfold maxLen at h2; omega
              have HROW := Lib.hid hrow
              have HBD := hbD
              clear hrin hrow hbD hmem hgc1
              go_wp2
              go_loopw [13] (fun bv wr => ∃ b : Nat, b ≤ g.length ∧ bv = .int .i64 b ∧ Hid (Below w4.heap.size w4 wr)) (fun bv _ => g.length - (intOf bv).toNat)
              case atStart => exact ⟨0, Nat.zero_le _, rfl, HBD⟩
              case round =>
                rename World => wE
                obtain ⟨b, hb, rfl, hbE⟩ := hrel
                have rwE := (hbE.out.cell (p := ⟨ub, uo + a, none⟩) (by simp; omega)).trans HROW.out
                by_cases hbl : b < g.length
                · obtain ⟨sb_, so_, rfl, hsb, hsc⟩ := SlIn.one HRI.out b hbl
                  have hsm : g[b] ∈ g := List.getElem_mem hbl
                  have hcg := HCGa.out g[b] hsm
                  have hb0 : (0 : Int) ≤ (b : Int) := Int.natCast_nonneg _
                  have hb1 : (b : Int) < (g.length : Int) := by omega
                  generalize g[b] = s at *
                  have HSC := Lib.hid hsc
                  have HNG := Lib.hid hcg.1
                  have HFN := Lib.hid hcg.2
                  have HBE := hbE
                  clear hsc hcg hbE hsm
                  go_wp2
                  go_loopw [14, 15] (fun fv mv wr => ∃ m : Nat, m ≤ ps.length ∧ mv = .int .i64 m ∧ fv = .bool ((List.range m).any fun x => inB g (idAt ps x) && inB ((ps.map Pv.except).getD x []) s) ∧ Hid (Below w4.heap.size w4 wr)) (fun _ mv _ => ps.length - (intOf mv).toNat)
                  case atStart => exact ⟨0, Nat.zero_le _, rfl, rfl, HBE⟩
                  case round =>
                    rename World => wF
                    obtain ⟨m, hm, rfl, rfl, hbF⟩ := hrel
                    have s1F := (hbF.out.cell (p := ⟨w.heap.size, 1, none⟩) (by simp; omega)).trans s1
                    have rwF := (hbF.out.cell (p := ⟨ub, uo + a, none⟩) (by simp; omega)).trans HROW.out
                    have scF := (hbF.out.cell (p := ⟨sb_, so_ + b, none⟩) (by simp; omega)).trans HSC.out
                    by_cases hml : m < ps.length
                    · obtain ⟨pb, po, rfl, hpb, ak, ck, ae, ce, hr, _, he, _⟩ := SlIn.at HP.out m hml
                      have b0 : Below w.heap.size w wF := HB4.out.trans (hbF.out.mono (by omega))
                      have hrq : wF.rangeAt pb (po + m * 23) (pvC _ ak ck ae ce) := fun j v hv => (b0.cell (p := ⟨pb, po + m * 23 + j, none⟩) hpb).trans (hr j v hv)
                      have he2 := he.below b0
                      have hng := HNG.out m hml
                      have hFs : ((List.range (m + 1)).any fun x => inB g (idAt ps x) && inB ((ps.map Pv.except).getD x []) s) = (((List.range m).any fun x => inB g (idAt ps x) && inB ((ps.map Pv.except).getD x []) s) || (inB g ps[m].id && inB ps[m].except s)) := by
                        rw [List.range_succ, List.any_append, List.any_cons, List.any_nil, Bool.or_false, idAt_eq hml]
                        congr 2
                        simp [List.getD_eq_getElem?_getD, hml]
                      generalize ps[m] = p at *
                      generalize (List.range m).any (fun x => inB g (idAt ps x) && inB ((ps.map Pv.except).getD x []) s) = F at *
                      have hm0 : (0 : Int) ≤ (m : Int) := Int.natCast_nonneg _
                      have hm1 : (m : Int) < (ps.length : Int) := by omega
                      have cgm := gone_cell (HBLK4.out.below (hbF.out)) m (by rw [HGI.out.len]; exact hml)
                      have HRG := Lib.hid hrq
                      have HE2 := Lib.hid he2
                      have HGM := Lib.hid hng
                      have HFS := Lib.hid hFs
                      have HBF := hbF
                      have hzF := hbF.out.size
                      clear hr hrq he he2 hng hFs b0 hbF rwE
                      go_upto_region 36 with (first
                        | ((with_reducible show wpList _ _ _ (⟨_, Op.load 49 (.tmp 107), _, _, _, _⟩ :: _) _ _); refine wpList_load_pv rfl (.tmp 107) rfl rfl p ak ck ae ce HRG.out Tryz.underlying49 rfl Pv.info ?_)
                        | (((with_reducible show wpList _ _ _ (⟨_, Op.store 49 (.tmp 16) (.tmp 108), _, _, _, _⟩ :: _) _ _); refine wpList_store_pv rfl (.tmp 16) (.tmp 108) rfl p ak ck ae ce rfl rfl ?hs7 Pv.info ?_; (case hs7 => rfl); intro W7 hb7 hz7 hr7 hf7; have e7_0 := hr7 0 _ rfl; have e7_10 := hr7 10 _ rfl; have HR7 := Lib.hid hr7; clear hr7); have s1G := (hb7.cell (p := ⟨w.heap.size, 1, none⟩) (by simp; omega)).trans s1F; have rwG := (hb7.cell (p := ⟨ub, uo + a, none⟩) (by simp; omega)).trans rwF; have scG := (hb7.cell (p := ⟨sb_, so_ + b, none⟩) (by simp; omega)).trans scF; have cgG := (hb7.cell (p := ⟨w3.heap.size, m, none⟩) (by simp; omega)).trans cgm))
                      have hG := StrsIn.below (HBF.out.trans (hb7.mono hzF)) HRI.out
                      have hE := (HE2.out.below (hb7.mono (by omega))).mono (OneR.mono _) (show w.heap.size ≤ W7.heap.size by omega)
                      have HB7 := Lib.hid ((HBF.out.trans (hb7.mono hzF)) : Below w4.heap.size w4 W7)
                      clear hb7 hf7 HR7 s1F rwF scF cgm
                      obtain ⟨X, hX⟩ : ∃ X, inB g p.id = X := ⟨_, rfl⟩
                      obtain ⟨Y, hY⟩ : ∃ Y, inB p.except s = Y := ⟨_, rfl⟩
                      have CX := fun n => Lib.hid (in_q' (s := p.id) hG hX n)
                      have CY := fun n => Lib.hid (in_q' (s := s) hE hY n)
                      have HFS2 := Lib.hid (HFS.out.trans (by rw [hX, hY]))
                      clear hG hE hX hY HFS
                      simp only [Act.put]
                      go_cut [14] (fun s14 wx => s14 = .bool (F || (X && Y)) ∧ Hid (∃ n, wx = W7.drewN n))
                      case first =>
                        cases F with
                        | true =>
                          go_quiet (fail)
                          go_wp2
                          go_meet
                          exact ⟨rfl, _, rfl⟩
                        | false =>
                          cases X with
                          | false =>
                            go_quiet (first | (go_at_call_of 21 p.id; exact Calls.quiet_of (CX _).out))
                            go_wp2
                            go_meet
                            exact ⟨rfl, _, rfl⟩
                          | true =>
                            cases Y with
                            | false =>
                              go_quiet (first | (go_at_call_of 21 p.id; exact Calls.quiet_of (CX _).out) | (go_at_call_of 21 s; exact Calls.quiet_of (CY _).out))
                              go_wp2
                              go_meet
                              exact ⟨rfl, _, rfl⟩
                            | true =>
                              go_quiet (first | (go_at_call_of 21 p.id; exact Calls.quiet_of (CX _).out) | (go_at_call_of 21 s; exact Calls.quiet_of (CY _).out))
                              go_wp2
                              go_meet
                              exact ⟨rfl, _, rfl⟩
                      case rest =>
                        obtain ⟨rfl, hwc⟩ := hcut
                        have HWC := hwc
                        have e1 : wc.cell? ⟨wF.heap.size, 0, none⟩ = some (.string p.id) := by obtain ⟨n, rfl⟩ := hwc.out; exact e7_0
                        have e2 : wc.cell? ⟨ub, uo + a, none⟩ = some (.slice (some ⟨sb_, so_, none⟩) g.length rc) := by obtain ⟨n, rfl⟩ := hwc.out; exact rwG
                        have e3 : wc.cell? ⟨sb_, so_ + b, none⟩ = some (.string s) := by obtain ⟨n, rfl⟩ := hwc.out; exact scG
                        have e4 : wc.cell? ⟨w3.heap.size, m, none⟩ = some (.bool (gone.getD m false)) := by obtain ⟨n, rfl⟩ := hwc.out; exact cgG
                        have HBC : Hid (Below w4.heap.size w4 wc) := by obtain ⟨n, rfl⟩ := hwc.out; exact HB7.out.trans (World.drewN_below _ _ _)
                        clear hwc s1G rwG scG cgG e7_0 e7_10
                        obtain ⟨gv, hgv⟩ : ∃ gv, gone.getD m false = gv := ⟨_, rfl⟩
                        rw [hgv] at e4
                        have HGV := Lib.hid hgv
                        clear hgv
                        cases hq : (p.id.toList == s.toList) with
                        | false =>
                          clear e4
                          go_wp2
                          go_quiet (fail)
                          go_wp2
                          go_roundw
                          case rel => exact ⟨m + 1, by omega, by go_num, by rw [HFS2.out], HBC.out.trans (World.drewN_below _ _ _)⟩
                          case measure => simp [intOf]; omega
                        | true =>
                          obtain rfl : gv = false := HGV.out.symm.trans (HGM.out ((eqB_iff _ _).1 hq))
                          go_wp2
                          go_quiet (fail)
                          go_wp2
                          go_roundw
                          case rel => exact ⟨m + 1, by omega, by go_num, by rw [HFS2.out], HBC.out.trans (World.drewN_below _ _ _)⟩
                          case measure => simp [intOf]; omega
                    · have hmn : m = ps.length := by omega
                      subst hmn
                      have HBF := hbF
                      have hft : ((List.range ps.length).any fun x => inB g (idAt ps x) && inB ((ps.map Pv.except).getD x []) s) = true := by
                        obtain ⟨m0, h0, h1, h2⟩ := HFN.out
                        rw [List.any_eq_true]
                        refine ⟨m0, List.mem_range.2 h0, ?_⟩
                        rw [Bool.and_eq_true, idAt_eq h0]
                        exact ⟨h1, by simpa [List.getD_eq_getElem?_getD, h0] using h2⟩
                      rw [hft]
                      clear hft hbF
                      go_wp2
                      go_roundw
                      case rel => exact ⟨b + 1, by omega, by go_num, HBF⟩
                      case measure => simp [intOf]; omega
                · have hbn : b = g.length := by omega
                  subst hbn
                  have HBE := hbE
                  clear hbE
                  go_wp2
                  go_roundw
                  case rel => exact ⟨a + 1, by omega, by go_num, HBE⟩
                  case measure => simp [intOf]; omega
            · have han : a = cl.length := by omega
              subst han
              have HBD := hbD
              clear hbD
              have hz := HZR.out
              have hA : ((leftN gone : Int) == 0) = decide (cl.length = 0) := by
                rw [Bool.eq_iff_iff, beq_iff_eq, decide_eq_true_eq, ← hz]; omega
              have hC : ((cl.length : Int) == 0) = decide (cl.length = 0) := by
                rw [Bool.eq_iff_iff, beq_iff_eq, decide_eq_true_eq]; omega
              cases hdc : decide (cl.length = 0) with
              | false =>
                rw [hdc] at hA hC
                clear hz hdc
                go_wp2
                go_ret
                exact ⟨rfl, HB4.out.trans (HBD.out.mono (by omega))⟩
              | true =>
                rw [hdc] at hA hC
                clear hz hdc
                go_wp2
                go_ret
                exact ⟨rfl, HB4.out.trans (HBD.out.mono (by omega))⟩
end

end Go.Proofs.YtihpoecdnchioaaGreatDoor
