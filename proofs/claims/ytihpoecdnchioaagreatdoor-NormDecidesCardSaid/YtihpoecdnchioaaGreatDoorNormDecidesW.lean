/- The walk of law14.NormDecides. No conditions. -/
import Derived.Test.YtihpoecdnchioaaGreatDoorHead
import Derived.Test.YtihpoecdnchioaaGreatDoorDec1
import Derived.BigQuiet
namespace Go.Proofs.YtihpoecdnchioaaGreatDoor
open Go.RowKit Tj

theorem in_q {W : World} {B : Nat} {l : List ByteArray} {s : ByteArray} {v : Value} {b : Bool} (h : StrsIn W B l v) (hb : inB l s = b) (q : Nat) : Calls Tryz.prog 21 #[v, .string s] (W.drewN q) fun e w' => e = .returned (.bool b) ∧ ∃ n, w' = (W.drewN q).drewN n := by
  refine (in_any l s v (W.drewN q) B (h.below (World.drewN_below _ _ _))).mono ?_
  rintro e w' ⟨rfl, rfl⟩
  exact ⟨by rw [hb], 0, rfl⟩

section
set_option maxRecDepth 100000 in
set_option maxHeartbeats 8000000 in
theorem normDecides_any {d : List Fa} {ps : List Pv} {c : List Int} {v cv : Value} (w : World) (hl : LawIn w w.heap.size d ps v) (hc : IntsIn w w.heap.size c cv) :
    Calls Tryz.prog 4 #[v, cv] w fun e w' => e = .returned (.bool true) ∧ Below w.heap.size w w' := by
  have hl0 := hl
  obtain ⟨u1, u2, asn, ns, cs, rfl, hd, hp⟩ := hl
  obtain ⟨ad, cd, rfl, d1, d2, _⟩ := SlIn.shape hd
  obtain ⟨ap, cp, rfl, p1, p2, _⟩ := SlIn.shape hp
  have hc0 := hc
  obtain ⟨ac, cc, rfl, c1, c2, _⟩ := SlIn.shape hc
  unfold maxLen at p2
  have hbw : Below w.heap.size w (w.alloc (.cells #[.slice ad d.length cd, .slice ap ps.length cp, .slice asn ns cs] 28)) := (Below.refl _ _).alloc (Nat.le_refl _) _
  have K0 := Blk.new w 28 #[.slice ad d.length cd, .slice ap ps.length cp, .slice asn ns cs]
  have x0 : (w.alloc (.cells #[.slice ad d.length cd, .slice ap ps.length cp, .slice asn ns cs] 28)).cell? ⟨w.heap.size, 0, none⟩ = some (.slice ad d.length cd) := K0.cell 0
  have x1 : (w.alloc (.cells #[.slice ad d.length cd, .slice ap ps.length cp, .slice asn ns cs] 28)).cell? ⟨w.heap.size, 1, none⟩ = some (.slice ap ps.length cp) := K0.cell 1
  have x2 : (w.alloc (.cells #[.slice ad d.length cd, .slice ap ps.length cp, .slice asn ns cs] 28)).cell? ⟨w.heap.size, 2, none⟩ = some (.slice asn ns cs) := K0.cell 2
  have HBW := Lib.hid hbw
  have HFEW := Lib.hid (fun W (hb : Below w.heap.size w W) => few_any d ps 40 _ W w.heap.size (by decide) (by decide) hb.size (hl0.below hb))
  cases hf : fewL d ps 40 with
  | false =>
    rw [hf] at HFEW
    clear hl0 hd hp hc hc0 hbw K0 hf
    go_enter Tryz.func4, Tryz.ntmps4
    go_wp2_with (first
      | (go_at_call 10; refine (head_any _).mono ?_; rintro e w1 ⟨rfl, hb1⟩; have y0 := (hb1.cell (p := ⟨w.heap.size, 0, none⟩) (by simp)).trans x0; have y1 := (hb1.cell (p := ⟨w.heap.size, 1, none⟩) (by simp)).trans x1; have y2 := (hb1.cell (p := ⟨w.heap.size, 2, none⟩) (by simp)).trans x2; have HB1 := Lib.hid (HBW.out.trans (hb1.mono (by simp))); have hz1 := hb1.size; simp only [World.size_alloc] at hz1; clear hb1)
      | (go_at_call 11; refine (HFEW.out _ HB1.out).mono ?_; rintro e w2 ⟨rfl, hb2⟩; have z0 := (hb2.cell (p := ⟨w.heap.size, 0, none⟩) (by simp; omega)).trans y0; have z1 := (hb2.cell (p := ⟨w.heap.size, 1, none⟩) (by simp; omega)).trans y1; have z2 := (hb2.cell (p := ⟨w.heap.size, 2, none⟩) (by simp; omega)).trans y2; have HB2 := Lib.hid (HB1.out.trans (hb2.mono (by omega))); have hz2 := hb2.size; clear hb2))
    go_ret
    exact ⟨rfl, HB2.out⟩
  | true =>
    obtain ⟨hn, hex, hsz⟩ := fewL_parts (n := 40) hf
    have hn2 : ps.length ≤ 1000 := by omega
    have hsz2 : ∀ p ∈ ps, p.cond.size ≤ 1000000 := fun p hp => Nat.le_trans (hsz p hp) (by decide)
    rw [hf] at HFEW
    have HAPP := Lib.hid (fun W (hb : Below w.heap.size w W) => appl_any d ps c _ _ W w.heap.size hn2 hb.size (hl0.below hb) hex hsz2 (hc0.below hb))
    by_cases hz : askE d ps c = 0
    · have HBLK := Lib.hid (fun W (hb : Below w.heap.size w W) id => blk_any d ps c id _ _ W w.heap.size hn2 hb.size (hl0.below hb) hex hsz2 (hc0.below hb))
      have HDI : Hid (DomIn w w.heap.size d (.agg #[.slice ad d.length cd])) := ⟨_, rfl, hd⟩
      have HC := Lib.hid hc0
      have HP := Lib.hid hp
      have HSZ := Lib.hid hsz2
      have HZ := Lib.hid hz
      have HSOME := Lib.hid (dec_some (d := d) (ps := ps) (c := c) hz)
      have HDA := Lib.hid (fun i hi => dec_applies (d := d) (ps := ps) (c := c) hz i hi)
      have HDB := Lib.hid (fun i hi => (dec_at (d := d) (ps := ps) (c := c) hz i hi).1)
      have HDC := Lib.hid (fun i k hi hk => dec_blk (d := d) (ps := ps) (c := c) hz i k hi hk)
      rw [hz] at HAPP
      rw [if_pos rfl] at HAPP
      generalize appliedL d ps c = al at *
      clear hl0 hd hp hc hc0 hbw K0 hf hex hsz hsz2 hz
      go_enter Tryz.func4, Tryz.ntmps4
      go_wp2_with (first
        | (go_at_call 10; refine (head_any _).mono ?_; rintro e w1 ⟨rfl, hb1⟩; have y0 := (hb1.cell (p := ⟨w.heap.size, 0, none⟩) (by simp)).trans x0; have y1 := (hb1.cell (p := ⟨w.heap.size, 1, none⟩) (by simp)).trans x1; have y2 := (hb1.cell (p := ⟨w.heap.size, 2, none⟩) (by simp)).trans x2; have HB1 := Lib.hid (HBW.out.trans (hb1.mono (by simp))); have hz1 := hb1.size; simp only [World.size_alloc] at hz1; clear hb1)
        | (go_at_call 11; refine (HFEW.out _ HB1.out).mono ?_; rintro e w2 ⟨rfl, hb2⟩; have z0 := (hb2.cell (p := ⟨w.heap.size, 0, none⟩) (by simp; omega)).trans y0; have z1 := (hb2.cell (p := ⟨w.heap.size, 1, none⟩) (by simp; omega)).trans y1; have z2 := (hb2.cell (p := ⟨w.heap.size, 2, none⟩) (by simp; omega)).trans y2; have HB2 := Lib.hid (HB1.out.trans (hb2.mono (by omega))); have hz2 := hb2.size; clear hb2)
        | (go_at_call 12; refine (HAPP.out _ HB2.out).mono ?_; rintro e w3 ⟨u, rfl, hb3, hu⟩; obtain ⟨aa, ca, rfl, a1, a2, _⟩ := SlIn.shape hu; have t0 := (hb3.cell (p := ⟨w.heap.size, 0, none⟩) (by simp; omega)).trans z0; have t1 := (hb3.cell (p := ⟨w.heap.size, 1, none⟩) (by simp; omega)).trans z1; have t2 := (hb3.cell (p := ⟨w.heap.size, 2, none⟩) (by simp; omega)).trans z2; have HB3 := Lib.hid (HB2.out.trans (hb3.mono (by omega))); have hz3 := hb3.size; have HAL := Lib.hid hu; clear hb3 hu))
      clear x0 x1 x2 y0 y1 y2 z0 z1 z2
      go_loopw [8, 9] (fun so iv wr => ∃ k : Nat, k ≤ ps.length ∧ iv = .int .i64 k ∧ so = .bool ((ps.take k).any fun p => holdsF p.cond d c []) ∧ Hid (Below w3.heap.size w3 wr)) (fun _ iv _ => ps.length - (intOf iv).toNat)
      case atStart => exact ⟨0, Nat.zero_le _, rfl, rfl, Below.refl _ _⟩
      case round =>
        rename World => wq
        obtain ⟨k, hk, rfl, rfl, hbr⟩ := hrel
        have b0 : Below w.heap.size w wq := HB3.out.trans (hbr.out.mono (by omega))
        have hrs := hbr.out.size
        have q0 := (hbr.out.cell (p := ⟨w.heap.size, 0, none⟩) (by simp; omega)).trans t0
        have q1 := (hbr.out.cell (p := ⟨w.heap.size, 1, none⟩) (by simp; omega)).trans t1
        have q2 := (hbr.out.cell (p := ⟨w.heap.size, 2, none⟩) (by simp; omega)).trans t2
        by_cases hlt : k < ps.length
        · have hts := any_take (fun p => holdsF p.cond d c []) ps k hlt
          obtain ⟨b, off, rfl, hbB, ak, ck, ae, ce, hr, hf, he, hzz⟩ := SlIn.at HP.out k hlt
          have hrq : wq.rangeAt b (off + k * 23) (pvC _ ak ck ae ce) := fun j v hv => (b0.cell (p := ⟨b, off + k * 23 + j, none⟩) hbB).trans (hr j v hv)
          have hda := HDA.out k hlt
          have hdb := HDB.out k hlt
          have hdc := fun j hj => HDC.out k j hlt hj
          have hsp := HSZ.out ps[k] (List.getElem_mem hlt)
          generalize ps[k] = p at *
          have hbp : ∀ W, Below w.heap.size w W → Calls Tryz.prog 14 #[.agg #[.slice ad d.length cd, .slice (some ⟨b, off, none⟩) ps.length cp, .slice asn ns cs], .string p.id, .slice ac c.length cc] W fun e w' => ∃ u, e = .returned (.tuple #[u, .int .i64 0]) ∧ Below W.heap.size W w' ∧ StrsIn w' w'.heap.size (blkL d ps c p.id) u := fun W hb => by
            refine (HBLK.out W hb p.id).mono ?_
            rintro e w' ⟨u, rfl, h1, h2⟩
            rw [hdb] at h2 ⊢
            exact ⟨u, rfl, h1, by rwa [if_pos rfl] at h2⟩
          generalize blkL d ps c p.id = bl at *
          have hho : ∀ W, Below w.heap.size w W → Calls Tryz.prog 20 #[.agg #[.int .i64 p.cond.op, .string p.cond.name, .int .i64 p.cond.cmp, .int .i64 p.cond.n, .slice ak p.cond.kids.length ck], .agg #[.slice ad d.length cd], .slice ac c.length cc, .slice none 0 0] W fun e w' => e = .returned (.bool (holdsF p.cond d c [])) ∧ Below W.heap.size W w' := fun W hb =>
            holdsP_any p.cond d c [] _ _ _ _ W w.heap.size hsp hb.size (hf.below hb) (HDI.out.below hb) (HC.out.below hb) ⟨none, 0, rfl, Nat.le_refl _, Nat.zero_le _, fun e => absurd rfl e⟩
          generalize holdsF p.cond d c [] = ho at *
          generalize (ps.take k).any (fun p => holdsF p.cond d c []) = so at *
          generalize hst : (ps.take (k + 1)).any (fun p => holdsF p.cond d c []) = st at *
          have hk0 : (0 : Int) ≤ (k : Int) := Int.natCast_nonneg _
          have hk1 : (k : Int) < (ps.length : Int) := by omega
          have HB0 := Lib.hid b0
          have HBR := hbr
          have HRG := Lib.hid hrq
          have HBP := Lib.hid hbp
          have HHO := Lib.hid hho
          have HDJ := Lib.hid hdc
          have HIN := Lib.hid hda
          have HST := Lib.hid hts
          have HST2 := Lib.hid hst
          clear hr hrq hf he hzz b0 hbr hbp hho hdc hda hdb hts hst t0 t1 t2
          go_upto_region 14 with (first
            | ((with_reducible show wpList _ _ _ (⟨_, Op.load 49 (.tmp 45), _, _, _, _⟩ :: _) _ _); refine wpList_load_pv rfl (.tmp 45) rfl rfl p ak ck ae ce HRG.out Tryz.underlying49 rfl Pv.info ?_)
            | (((with_reducible show wpList _ _ _ (⟨_, Op.store 49 (.tmp 10) (.tmp 46), _, _, _, _⟩ :: _) _ _); refine wpList_store_pv rfl (.tmp 10) (.tmp 46) rfl p ak ck ae ce rfl rfl ?hs1 Pv.info ?_; (case hs1 => rfl); intro W1 hb1 hz1 hr1 hf1; have e1_0 := hr1 0 _ rfl; have e1_5 := hr1 5 _ rfl; have e1_6 := hr1 6 _ rfl; have e1_7 := hr1 7 _ rfl; have e1_8 := hr1 8 _ rfl; have e1_9 := hr1 9 _ rfl; have HR1 := Lib.hid hr1; clear hr1); have r0 := (hb1.cell (p := ⟨w.heap.size, 0, none⟩) (by simp; omega)).trans q0; have r1 := (hb1.cell (p := ⟨w.heap.size, 1, none⟩) (by simp; omega)).trans q1; have r2 := (hb1.cell (p := ⟨w.heap.size, 2, none⟩) (by simp; omega)).trans q2)
            | (go_at_call 14; refine (HBP.out _ (HB0.out.trans (hb1.mono (by omega)))).mono ?_; rintro e w5 ⟨u5, rfl, hb5, hu5⟩; obtain ⟨ba, bc, rfl, g1, g2, _⟩ := SlIn.shape hu5; have HBL := Lib.hid hu5; have HB5 := Lib.hid hb5; have s0 := (hb5.cell (p := ⟨w.heap.size, 0, none⟩) (by simp; omega)).trans r0; have s1 := (hb5.cell (p := ⟨w.heap.size, 1, none⟩) (by simp; omega)).trans r1; have s2 := (hb5.cell (p := ⟨w.heap.size, 2, none⟩) (by simp; omega)).trans r2; have f0 := (hb5.cell (p := ⟨wq.heap.size, 0, none⟩) (by simp; omega)).trans e1_0; have f5 := (hb5.cell (p := ⟨wq.heap.size, 5, none⟩) (by simp; omega)).trans e1_5; have f6 := (hb5.cell (p := ⟨wq.heap.size, 6, none⟩) (by simp; omega)).trans e1_6; have f7 := (hb5.cell (p := ⟨wq.heap.size, 7, none⟩) (by simp; omega)).trans e1_7; have f8 := (hb5.cell (p := ⟨wq.heap.size, 8, none⟩) (by simp; omega)).trans e1_8; have f9 := (hb5.cell (p := ⟨wq.heap.size, 9, none⟩) (by simp; omega)).trans e1_9; have hz5 := hb5.size; clear hb5 hu5)
            | (go_at_call 20; refine (HHO.out _ ((HB0.out.trans (hb1.mono (by omega))).trans (HB5.out.mono (by omega)))).mono ?_; rintro e w6 ⟨rfl, hb6⟩; have o0 := (hb6.cell (p := ⟨w.heap.size, 0, none⟩) (by simp; omega)).trans s0; have o1 := (hb6.cell (p := ⟨w.heap.size, 1, none⟩) (by simp; omega)).trans s1; have o2 := (hb6.cell (p := ⟨w.heap.size, 2, none⟩) (by simp; omega)).trans s2; have l0 := (hb6.cell (p := ⟨wq.heap.size, 0, none⟩) (by simp; omega)).trans f0; have HQ6 := Lib.hid (((hb1.trans (HB5.out.mono (by omega))).trans (hb6.mono (by omega))) : Below wq.heap.size wq w6); have HBL6 := Lib.hid (strs_up HBL.out hb6); have hz6 := hb6.size; clear hb6))
          clear q0 q1 q2 r0 r1 r2 s0 s1 s2 e1_0 e1_5 e1_6 e1_7 e1_8 e1_9 f0 f5 f6 f7 f8 f9 hf1 HR1 hb1
          have HAL6 := Lib.hid (strs_up HAL.out (HBR.out.trans (HQ6.out.mono hrs)))
          have HB6 := Lib.hid ((HBR.out.trans (HQ6.out.mono hrs)) : Below w3.heap.size w3 w6)
          go_cut [8] (fun s8 wx => s8 = .bool st ∧ wx = w6)
          case first =>
            cases so <;> cases ho <;> (go_wp2; go_meet; exact ⟨by rw [HST.out]; rfl, rfl⟩)
          case rest =>
            obtain ⟨rfl, rfl⟩ := hcut
            go_upto_region 15 with (fail)
            go_cut [79] (fun s79 wx => s79 = .bool false ∧ wx = wc)
            case first =>
              have hbe : ((bl.length : Int) == 0) = decide (bl.length = 0) := by
                rw [Bool.eq_iff_iff, beq_iff_eq, decide_eq_true_eq]; omega
              have hin := in_any al p.id (.slice aa al.length ca) wc _ HAL6.out
              rw [HIN.out] at hin
              cases ho with
              | false =>
                rw [Bool.false_and] at hin
                have HI := Lib.hid hin
                clear hin hbe
                go_wp2_with (go_at_call 21; refine HI.out.mono ?_; rintro e w7 ⟨rfl, rfl⟩)
                go_meet
                exact ⟨rfl, rfl⟩
              | true =>
                rw [Bool.true_and] at hin
                have HI := Lib.hid hin
                clear hin
                cases hde : decide (bl.length = 0) with
                | false =>
                  rw [hde] at hbe HI
                  clear hde
                  go_wp2_with (go_at_call 21; refine HI.out.mono ?_; rintro e w7 ⟨rfl, rfl⟩)
                  go_meet
                  exact ⟨rfl, rfl⟩
                | true =>
                  rw [hde] at hbe HI
                  clear hde
                  go_wp2_with (go_at_call 21; refine HI.out.mono ?_; rintro e w7 ⟨rfl, rfl⟩)
                  go_meet
                  exact ⟨rfl, rfl⟩
            case rest =>
              obtain ⟨rfl, rfl⟩ := hcut
              go_wp2
              go_loopw [14] (fun jv wr2 => ∃ j : Nat, j ≤ ps.length ∧ jv = .int .i64 j ∧ Hid (Below wc.heap.size wc wr2)) (fun jv _ => ps.length - (intOf jv).toNat)
              case atStart => exact ⟨0, Nat.zero_le _, rfl, Below.refl _ _⟩
              case round =>
                rename World => wz
                obtain ⟨j, hj, rfl, hbz⟩ := hrel
                have m0 := (hbz.out.cell (p := ⟨w.heap.size, 0, none⟩) (by simp; omega)).trans o0
                have m1 := (hbz.out.cell (p := ⟨w.heap.size, 1, none⟩) (by simp; omega)).trans o1
                have m2 := (hbz.out.cell (p := ⟨w.heap.size, 2, none⟩) (by simp; omega)).trans o2
                have mp := (hbz.out.cell (p := ⟨wq.heap.size, 0, none⟩) (by simp; omega)).trans l0
                have hzs := hbz.out.size
                by_cases hjl : j < ps.length
                · obtain ⟨_, hbB2, bk, ck2, be, ce2, hr2, hf2, he2, hzz2⟩ := SlIn.get HP.out j hjl
                  have hdj := HDJ.out j hjl
                  have b1 : Below w.heap.size w wz := (HB0.out.trans (HQ6.out.mono (by omega))).trans (hbz.out.mono (by omega))
                  generalize ps[j] = q at *
                  have hrq2 : wz.rangeAt b (off + j * 23) (pvC q bk ck2 be ce2) := fun i v hv => (b1.cell (p := ⟨b, off + j * 23 + i, none⟩) hbB2).trans (hr2 i v hv)
                  have he3 := he2.below b1
                  have hj0 : (0 : Int) ≤ (j : Int) := Int.natCast_nonneg _
                  have hj1 : (j : Int) < (ps.length : Int) := by omega
                  have HR2 := Lib.hid hrq2
                  have HE3 := Lib.hid he3
                  have HBZ := hbz
                  have HD := Lib.hid hdj
                  have HB1 := Lib.hid b1
                  clear hr2 hrq2 hf2 he2 he3 hzz2 hdj b1 hbz o0 o1 o2 l0
                  go_upto_region 21 with (first
                    | ((with_reducible show wpList _ _ _ (⟨_, Op.load 49 (.tmp 90), _, _, _, _⟩ :: _) _ _); refine wpList_load_pv rfl (.tmp 90) rfl rfl q bk ck2 be ce2 HR2.out Tryz.underlying49 rfl Pv.info ?_)
                    | (((with_reducible show wpList _ _ _ (⟨_, Op.store 49 (.tmp 15) (.tmp 91), _, _, _, _⟩ :: _) _ _); refine wpList_store_pv rfl (.tmp 15) (.tmp 91) rfl q bk ck2 be ce2 rfl rfl ?hs2 Pv.info ?_; (case hs2 => rfl); intro W2 hb2 hz2 hr2 hf2; have e2_0 := hr2 0 _ rfl; have e2_10 := hr2 10 _ rfl; have HR2 := Lib.hid hr2; clear hr2); have n1 := (hb2.cell (p := ⟨w.heap.size, 1, none⟩) (by simp; omega)).trans m1; have np := (hb2.cell (p := ⟨wq.heap.size, 0, none⟩) (by simp; omega)).trans mp))
                  have hA := strs_up (strs_up HAL6.out HBZ.out) hb2
                  have hX := strs_up (strs_up HBL6.out HBZ.out) hb2
                  have hE := (HE3.out.below (hb2.mono (by omega))).mono (OneR.mono _) (show w.heap.size ≤ W2.heap.size by omega)
                  have HBE := Lib.hid ((HBZ.out.trans (hb2.mono hzs)) : Below wc.heap.size wc W2)
                  have hd2 := HD.out
                  clear hb2 hf2 HR2 m0 m1 m2 mp HD
                  obtain ⟨xa, hxa⟩ : ∃ xa, inB al q.id = xa := ⟨_, rfl⟩
                  obtain ⟨xe, hxe⟩ : ∃ xe, inB q.except p.id = xe := ⟨_, rfl⟩
                  rw [hxa, hxe] at hd2
                  cases xa with
                  | false =>
                    have CX := fun n => Lib.hid (in_q (s := q.id) (b := false) hX (hd2.trans rfl) n)
                    have CA := fun n => Lib.hid (in_q (s := q.id) hA hxa n)
                    have CE := fun n => Lib.hid (in_q (s := p.id) hE hxe n)
                    clear hA hX hE hxa hxe hd2
                    go_quiet (first
                      | (go_at_call_of 21 ba; exact Calls.quiet_of (CX _).out)
                      | (go_at_call_of 21 aa; exact Calls.quiet_of (CA _).out)
                      | (go_at_call_of 21 be; exact Calls.quiet_of (CE _).out))
                    go_wp2
                    go_roundw
                    case rel => exact ⟨j + 1, by omega, by go_num, HBE.out.trans (World.drewN_below _ _ _)⟩
                    case measure => simp [intOf]; omega
                  | true =>
                    cases xe with
                    | false =>
                      have CX := fun n => Lib.hid (in_q (s := q.id) (b := false) hX (hd2.trans rfl) n)
                      have CA := fun n => Lib.hid (in_q (s := q.id) hA hxa n)
                      have CE := fun n => Lib.hid (in_q (s := p.id) hE hxe n)
                      clear hA hX hE hxa hxe hd2
                      go_quiet (first
                        | (go_at_call_of 21 ba; exact Calls.quiet_of (CX _).out)
                        | (go_at_call_of 21 aa; exact Calls.quiet_of (CA _).out)
                        | (go_at_call_of 21 be; exact Calls.quiet_of (CE _).out))
                      go_wp2
                      go_roundw
                      case rel => exact ⟨j + 1, by omega, by go_num, HBE.out.trans (World.drewN_below _ _ _)⟩
                      case measure => simp [intOf]; omega
                    | true =>
                      have CX := fun n => Lib.hid (in_q (s := q.id) (b := true) hX (hd2.trans rfl) n)
                      have CA := fun n => Lib.hid (in_q (s := q.id) hA hxa n)
                      have CE := fun n => Lib.hid (in_q (s := p.id) hE hxe n)
                      clear hA hX hE hxa hxe hd2
                      go_quiet (first
                        | (go_at_call_of 21 ba; exact Calls.quiet_of (CX _).out)
                        | (go_at_call_of 21 aa; exact Calls.quiet_of (CA _).out)
                        | (go_at_call_of 21 be; exact Calls.quiet_of (CE _).out))
                      go_wp2
                      go_roundw
                      case rel => exact ⟨j + 1, by omega, by go_num, HBE.out.trans (World.drewN_below _ _ _)⟩
                      case measure => simp [intOf]; omega
                · have hjn : j = ps.length := by omega
                  subst hjn
                  have HBZ := hbz
                  clear hbz hj hjl o0 o1 o2 l0
                  go_wp2
                  go_roundw
                  case rel => exact ⟨k + 1, by omega, by go_num, by rw [HST2.out], HB6.out.trans (HBZ.out.mono (by omega))⟩
                  case measure => simp [intOf]; omega
        · have hkn : k = ps.length := by omega
          subst hkn
          have hso := HSOME.out
          rw [List.take_length]
          have HBR := hbr
          clear hbr hk hlt t0 t1 t2
          generalize (ps.any fun p => holdsF p.cond d c []) = so at *
          have HSO := Lib.hid hso
          clear hso
          cases so with
          | false =>
            go_wp2
            go_ret
            exact ⟨ret_bool (by rw [← HSO.out]; rfl), HB3.out.trans (HBR.out.mono (by omega))⟩
          | true =>
            go_wp2
            go_ret
            exact ⟨ret_bool (by rw [← HSO.out]), HB3.out.trans (HBR.out.mono (by omega))⟩
    · have e0 : (askE d ps c != 0) = true := by simpa using hz
      rw [if_neg hz] at HAPP
      generalize askE d ps c = er at *
      clear hl0 hd hp hc hc0 hbw K0 hf hex hsz hsz2 hz
      go_enter Tryz.func4, Tryz.ntmps4
      go_wp2_with (first
        | (go_at_call 10; refine (head_any _).mono ?_; rintro e w1 ⟨rfl, hb1⟩; have y0 := (hb1.cell (p := ⟨w.heap.size, 0, none⟩) (by simp)).trans x0; have y1 := (hb1.cell (p := ⟨w.heap.size, 1, none⟩) (by simp)).trans x1; have y2 := (hb1.cell (p := ⟨w.heap.size, 2, none⟩) (by simp)).trans x2; have HB1 := Lib.hid (HBW.out.trans (hb1.mono (by simp))); have hz1 := hb1.size; simp only [World.size_alloc] at hz1; clear hb1)
        | (go_at_call 11; refine (HFEW.out _ HB1.out).mono ?_; rintro e w2 ⟨rfl, hb2⟩; have z0 := (hb2.cell (p := ⟨w.heap.size, 0, none⟩) (by simp; omega)).trans y0; have z1 := (hb2.cell (p := ⟨w.heap.size, 1, none⟩) (by simp; omega)).trans y1; have z2 := (hb2.cell (p := ⟨w.heap.size, 2, none⟩) (by simp; omega)).trans y2; have HB2 := Lib.hid (HB1.out.trans (hb2.mono (by omega))); have hz2 := hb2.size; clear hb2)
        | (go_at_call 12; refine (HAPP.out _ HB2.out).mono ?_; rintro e w3 ⟨u, rfl, hb3, hu⟩; obtain ⟨aa, ca, rfl, a1, a2, _⟩ := SlIn.shape hu; have t0 := (hb3.cell (p := ⟨w.heap.size, 0, none⟩) (by simp; omega)).trans z0; have t1 := (hb3.cell (p := ⟨w.heap.size, 1, none⟩) (by simp; omega)).trans z1; have t2 := (hb3.cell (p := ⟨w.heap.size, 2, none⟩) (by simp; omega)).trans z2; have HB3 := Lib.hid (HB2.out.trans (hb3.mono (by omega))); have hz3 := hb3.size; have HAL := Lib.hid hu; clear hb3 hu))
      go_ret
      exact ⟨rfl, HB3.out⟩
end

end Go.Proofs.YtihpoecdnchioaaGreatDoor
