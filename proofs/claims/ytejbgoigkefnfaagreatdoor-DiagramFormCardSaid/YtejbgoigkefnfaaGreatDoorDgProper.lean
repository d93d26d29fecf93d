/- The walk of diagram.proper: whether a node is of the required form. A bound on the number of cuts. -/
import Derived.Test.YtejbgoigkefnfaaGreatDoorDgBN
namespace Go.Proofs.YtejbgoigkefnfaaGreatDoor
open Go.RowKit
theorem cutsB_drop (hi last : Int) (l : List Int) (j : Nat) (h : j < l.length) : cutsB hi last (l.drop j) = if l[j] <= last \/ hi < l[j] then false else cutsB hi l[j] (l.drop (j + 1)) := by
 rw [List.drop_eq_getElem_cons h, cutsB]
def prevO (l : List Int) (j : Nat) : Option Int := if j = 0 then none else some (l.getD (j - 1) 0)
theorem kidsB_drop (t : List Dn) (fact : Int) (p : Option Int) (l : List Int) (j : Nat) (h : j < l.length) : kidsB t fact p (l.drop j) = if l[j] < 0 \/ (t.length : Int) <= l[j] \/ p = some l[j] \/ ((t.getD l[j].toNat default).kids ≠ [] /\ (t.getD l[j].toNat default).fact <= fact) then false else kidsB t fact (some l[j]) (l.drop (j + 1)) := by
 rw [List.drop_eq_getElem_cons h, kidsB]
theorem len_zero {α : Type} {l : List α} : (((l.length : Nat) : Int) == 0) = decide (l = []) := by cases l <;> simp <;> omega
set_option maxRecDepth 100000 in
set_option maxHeartbeats 8000000 in
theorem proper_any (d : List Fa) (t : List Dn) (n : Dn) (vg vc vk u : Value) (w : World) (B : Nat) (hB : B <= w.heap.size) (hg : DgIn w B t vg) (hc : IntsIn w B n.cuts vc) (hk : IntsIn w B n.kids vk) (hd : DomIn w B d u) (hl : n.cuts.length <= 1000000) :
    Calls Tryz.prog 53 #[vg, .agg #[.int .i64 n.fact, vc, vk, .bool n.leaf], u] w fun e w' => e = .returned (.bool (properB d t n)) /\ Below w.heap.size w w' := by
  obtain ⟨fact, cuts, kids, leaf⟩ := n
  dsimp only at hc hk hl ⊢
  have HG := Lib.hid hg; have HD := Lib.hid hd; have HC := Lib.hid hc; have HK := Lib.hid hk; obtain ⟨_, rfl, hg2⟩ := hg; obtain ⟨_, rfl, hd2⟩ := hd; have HG2 := Lib.hid hg2; have HD2 := Lib.hid hd2; obtain ⟨ag, cg, rfl, g1, g2, _⟩ := SlIn.shape hg2; obtain ⟨ad, cd, rfl, d1, d2, _⟩ := SlIn.shape hd2; obtain ⟨ac, cc, rfl, c1, c2, _⟩ := SlIn.shape hc; obtain ⟨ak, ck, rfl, k1, k2, _⟩ := SlIn.shape hk; unfold maxLen at g2 d2 c2 k2; have hl : cuts.length <= 1000000 := hl; have hB3 : Below w.heap.size w (((w.alloc (.cells #[.slice ag t.length cg] 34)).alloc (.cells #[.int .i64 fact, .slice ac cuts.length cc, .slice ak kids.length ck, .bool leaf] 56)).alloc (.cells #[.slice ad d.length cd] 27)) := (((Below.refl _ _).alloc (Nat.le_refl _) _).alloc (by simp) _).alloc (by simp; omega) _; have K0 : Blk (((w.alloc (.cells #[.slice ag t.length cg] 34)).alloc (.cells #[.int .i64 fact, .slice ac cuts.length cc, .slice ak kids.length ck, .bool leaf] 56)).alloc (.cells #[.slice ad d.length cd] 27)) w.heap.size 34 #[.slice ag t.length cg] := ((Blk.new w 34 #[.slice ag t.length cg]).alloc _).alloc _
  have K1 : Blk (((w.alloc (.cells #[.slice ag t.length cg] 34)).alloc (.cells #[.int .i64 fact, .slice ac cuts.length cc, .slice ak kids.length ck, .bool leaf] 56)).alloc (.cells #[.slice ad d.length cd] 27)) (w.heap.size + 1) 56 #[.int .i64 fact, .slice ac cuts.length cc, .slice ak kids.length ck, .bool leaf] := by
    have q := (Blk.new (w.alloc (.cells #[.slice ag t.length cg] 34)) 56 #[.int .i64 fact, .slice ac cuts.length cc, .slice ak kids.length ck, .bool leaf]).alloc (.cells #[.slice ad d.length cd] 27)
    simpa only [World.size_alloc] using q
  have K2 : Blk (((w.alloc (.cells #[.slice ag t.length cg] 34)).alloc (.cells #[.int .i64 fact, .slice ac cuts.length cc, .slice ak kids.length ck, .bool leaf] 56)).alloc (.cells #[.slice ad d.length cd] 27)) (w.heap.size + 2) 27 #[.slice ad d.length cd] := by
    have q := Blk.new ((w.alloc (.cells #[.slice ag t.length cg] 34)).alloc (.cells #[.int .i64 fact, .slice ac cuts.length cc, .slice ak kids.length ck, .bool leaf] 56)) 27 #[.slice ad d.length cd]
    simpa only [World.size_alloc] using q
  have hs3 : ((((w.alloc (.cells #[.slice ag t.length cg] 34)).alloc (.cells #[.int .i64 fact, .slice ac cuts.length cc, .slice ak kids.length ck, .bool leaf] 56)).alloc (.cells #[.slice ad d.length cd] 27))).heap.size = w.heap.size + 3 := by simp
  obtain ⟨W, hW⟩ : ∃ W, (((w.alloc (.cells #[.slice ag t.length cg] 34)).alloc (.cells #[.int .i64 fact, .slice ac cuts.length cc, .slice ak kids.length ck, .bool leaf] 56)).alloc (.cells #[.slice ad d.length cd] 27)) = W := ⟨_, rfl⟩; rw [hW] at hB3 K0 K1 K2 hs3; have HW := Lib.hid hW; have HB3 := Lib.hid hB3; have HK0 := Lib.hid K0; have HK1 := Lib.hid K1; have HK2 := Lib.hid K2; obtain ⟨R, hR⟩ : ∃ R, properB d t ⟨fact, cuts, kids, leaf⟩ = R := ⟨_, rfl⟩; rw [hR]; have HR := Lib.hid hR; have x0 := K0.cell 0; have y0 := K1.cell 0; have y1 := K1.cell 1; have y2 := K1.cell 2; have y3 := K1.cell 3; have z0 := K2.cell 0; have hkz := len_zero (l := kids); have hcz := len_zero (l := cuts); clear hg2 hd2 hc hk hW hB3 K0 K1 K2 hR; go_enter Tryz.func53, Tryz.ntmps53; go_upto_region 1 with (fail); rw [HW.out]; by_cases hke : kids = []
  . have e1 : ((kids.length : Int) == 0) = true := by rw [hkz]; simpa using hke
    have HS := Lib.hid (show R = (fact == 0 && cuts.isEmpty) by rw [<- HR.out]; unfold properB; rw [if_pos hke]); clear hkz hke; cases a1 : (fact == 0) with
    | false =>
      go_wp2; go_ret; exact ⟨ret_bool (by rw [HS.out, a1]; rfl), HB3.out⟩
    | true =>
      have e2 : ((cuts.length : Int) == 0) = cuts.isEmpty := by rw [hcz]; cases cuts <;> simp
      clear hcz; go_wp2; go_ret; exact ⟨ret_bool (by rw [HS.out, a1]; rfl), HB3.out⟩
  . have e1 : ((kids.length : Int) == 0) = false := by rw [hkz]; simpa using hke
    have hR2 : R = if leaf = true \/ fact < 0 \/ (d.length : Int) <= fact \/ cuts = [] \/ kids.length ≠ cuts.length + 1 then false else cutsB (fhi d fact.toNat) (flo d fact.toNat) cuts && kidsB t fact none kids := by
      rw [<- HR.out]; unfold properB; rw [if_neg hke]
    have HR2 := Lib.hid hR2; clear hkz hR2; have hfalse : (leaf = true \/ fact < 0 \/ (d.length : Int) <= fact \/ cuts = [] \/ kids.length ≠ cuts.length + 1) -> R = false := fun h => by rw [HR2.out, if_pos h]
    cases a1 : leaf with
    | true =>
      have HS := Lib.hid (hfalse (.inl a1)); clear hfalse hke hcz; subst a1; go_wp2; go_ret; exact ⟨ret_bool HS.out.symm, HB3.out⟩
    | false =>
      subst a1; cases a2 : decide (fact < 0) with
      | true =>
        have HS := Lib.hid (hfalse (.inr (.inl (by simpa using a2)))); clear hfalse hke hcz; go_wp2; go_ret; exact ⟨ret_bool HS.out.symm, HB3.out⟩
      | false =>
        cases a3 : decide ((d.length : Int) <= fact) with
        | true =>
          have HS := Lib.hid (hfalse (.inr (.inr (.inl (by simpa using a3))))); clear hfalse hke hcz; go_wp2; go_ret; exact ⟨ret_bool HS.out.symm, HB3.out⟩
        | false =>
          cases a4 : ((cuts.length : Int) == 0) with
          | true =>
            have HS := Lib.hid (hfalse (.inr (.inr (.inr (.inl (by rw [hcz] at a4; simpa using a4)))))); clear hfalse hke hcz; go_wp2; go_ret; exact ⟨ret_bool HS.out.symm, HB3.out⟩
          | false =>
            cases a5 : ((kids.length : Int) != (cuts.length : Int) + 1) with
            | true =>
              have hne5 : kids.length ≠ cuts.length + 1 := by
                have : (kids.length : Int) ≠ (cuts.length : Int) + 1 := by simpa using a5
                omega
              have HS := Lib.hid (hfalse (.inr (.inr (.inr (.inr hne5))))); clear hne5; clear hfalse hke hcz; go_wp2; go_ret; exact ⟨ret_bool HS.out.symm, HB3.out⟩
            | false =>
              have b2 : 0 <= fact := by simpa using a2
              obtain ⟨i, rfl⟩ : ∃ i : Nat, fact = (i : Int) := ⟨fact.toNat, by omega⟩
              have hi : i < d.length := by
                have : ¬ ((d.length : Int) <= (i : Int)) := by simpa using a3
                omega
              have hce : cuts ≠ [] := fun e => by rw [hcz, e] at a4; simp at a4
              have hkl : kids.length = cuts.length + 1 := by
                have : (kids.length : Int) = (cuts.length : Int) + 1 := by simpa using a5
                omega
              have hn : ¬ (false = true \/ (i : Int) < 0 \/ (d.length : Int) <= (i : Int) \/ cuts = [] \/ kids.length ≠ cuts.length + 1) := by
                rintro (h | h | h | h | h)
                . cases h
                . omega
                . omega
                . exact hce h
                . exact h hkl
              have HS := HR2.out; rw [if_neg hn, Int.toNat_natCast] at HS; obtain ⟨db, df, rfl, hdB, f0, f1, f2, f3, f4, f5, f6, f7⟩ := HD2.out.at i hi; clear f0 f1 f4 f5 f6 f7; have elo : flo d i = d[i].lo := by unfold flo; rw [getD_dg _ _ _ hi]
              have ehi : fhi d i = d[i].hi := by unfold fhi; rw [getD_dg _ _ _ hi]
              rw [elo, ehi] at HS; generalize d[i].lo = lo at *
              generalize d[i].hi = hx at *
              have q2 := (HB3.out.cell (p := ⟨db, df + i * 4 + 2, none⟩) (by show db < w.heap.size; omega)).trans f2; have q3 := (HB3.out.cell (p := ⟨db, df + i * 4 + 3, none⟩) (by show db < w.heap.size; omega)).trans f3; have HST := Lib.hid HS; have HKL : Hid (kids.length = cuts.length + 1) := hkl; have hkl2 : kids.length <= 1000001 := by omega
              have hin : (i : Int) < (d.length : Int) := by omega
              have i0 : (0 : Int) <= (i : Int) := Int.natCast_nonneg i; clear hfalse hn hcz hke hce HR HR2 f2 f3 elo ehi hkl HS hi; go_wp2
              go_loopw [7, 66] (fun lv iv wr => ∃ (j : Nat) (last : Int), j <= cuts.length /\ iv = .int .i64 j /\ lv = .int .i64 last /\ Hid (wr = W) /\ Hid (R = (cutsB hx last (cuts.drop j) && kidsB t i none kids))) (fun _ iv _ => cuts.length - (intOf iv).toNat)
              case atStart => exact ⟨0, lo, by omega, rfl, rfl, rfl, HST⟩
              case round =>
                obtain ⟨j, last, hj, rfl, rfl, hwr, hRj⟩ := hrel; have hwr := hwr.out; subst hwr; by_cases hlt : j < cuts.length
                . obtain ⟨cb, co, rfl, hcB, hcc⟩ := SlIn.one HC.out j hlt
                  have hcc2 := (HB3.out.cell (p := ⟨cb, co + j, none⟩) (by show cb < w.heap.size; omega)).trans hcc; have hdr := cutsB_drop hx last cuts j hlt; have hRR := hRj.out; rw [hdr] at hRR; clear hdr hcc; generalize cuts[j] = cj at *
                  by_cases b1 : cj <= last
                  . have g1d : decide (cj <= last) = true := by simpa using b1
                    have HS := Lib.hid (show R = false by rw [hRR, if_pos (.inl b1)]; rfl); clear hRR b1; go_wp2; go_ret; exact ⟨ret_bool HS.out.symm, HB3.out⟩
                  . have g1d : decide (cj <= last) = false := by simpa using b1
                    by_cases b2 : hx < cj
                    . have g2d : decide (hx < cj) = true := by simpa using b2
                      have HS := Lib.hid (show R = false by rw [hRR, if_pos (.inr b2)]; rfl); clear hRR b1 b2; go_wp2; go_ret; exact ⟨ret_bool HS.out.symm, HB3.out⟩
                    . have g2d : decide (hx < cj) = false := by simpa using b2
                      have HS : Hid (R = (cutsB hx cj (cuts.drop (j + 1)) && kidsB t i none kids)) := by
                        show _ = _
                        rw [hRR, if_neg (by omega)]
                      clear hRR b1 b2; go_wp2; go_roundw
                      case rel => exact ⟨j + 1, cj, by omega, by go_num, rfl, (show True from trivial), HS⟩
                      case measure => simp [intOf]; omega
                . have hRR := hRj.out
                  rw [List.drop_of_length_le (by omega)] at hRR; have HS0 : Hid (R = kidsB t i (prevO kids 0) (kids.drop 0)) := by show _ = _; rw [hRR]; rfl
                  clear hRR; go_wp2
                  go_loopw [89] (fun iv wq => ∃ (m : Nat), m <= kids.length /\ iv = .int .i64 m /\ Hid (Below wr.heap.size wr wq) /\ Hid (R = kidsB t i (prevO kids m) (kids.drop m))) (fun iv _ => kids.length - (intOf iv).toNat)
                  case atStart => exact ⟨0, by omega, rfl, Below.refl _ _, HS0⟩
                  case round =>
                    rename World => wq
                    obtain ⟨m, hm, rfl, hq, hRm⟩ := hrel; have HBQ : Hid (Below w.heap.size w wq) := HB3.out.trans (hq.out.mono (by omega)); have hsq := hq.out.size; clear x0 y0 y1 y2 y3 z0 HS0 hRj; have x0 := (HK0.out.below hq.out).cell 0; have y0 := (HK1.out.below hq.out).cell 0; have y2 := (HK1.out.below hq.out).cell 2; by_cases hlm : m < kids.length
                    . obtain ⟨kb, ko, rfl, hkB, hkc⟩ := SlIn.one HK.out m hlm
                      have hkc2 := (HBQ.out.cell (p := ⟨kb, ko + m, none⟩) (by show kb < w.heap.size; omega)).trans hkc; have hdr := kidsB_drop t i (prevO kids m) kids m hlm; have hnx : prevO kids (m + 1) = some kids[m] := by unfold prevO; rw [if_neg (by omega), Nat.add_sub_cancel, getD_dg _ _ _ hlm]
                      have hRR := hRm.out; rw [hdr] at hRR; have HNX := Lib.hid hnx; generalize kids[m] = k at *
                      have HRR := Lib.hid hRR; clear hdr hkc hRm hRR hnx; by_cases b1 : k < 0
                      . have g1d : decide (k < 0) = true := by simpa using b1
                        have HS := Lib.hid (show R = false by rw [HRR.out, if_pos (.inl b1)]); clear b1
                        (go_wp2; go_quiet (fail); go_wp2; go_ret; exact ⟨ret_bool HS.out.symm, HBQ.out.trans (World.drewN_below _ _ _)⟩)
                      . have g1d : decide (k < 0) = false := by simpa using b1
                        by_cases b2 : (t.length : Int) <= k
                        . have g2d : decide ((t.length : Int) <= k) = true := by simpa using b2
                          have HS := Lib.hid (show R = false by rw [HRR.out, if_pos (.inr (.inl b2))]); clear b2
                          (go_wp2; go_quiet (fail); go_wp2; go_ret; exact ⟨ret_bool HS.out.symm, HBQ.out.trans (World.drewN_below _ _ _)⟩)
                        . have g2d : decide ((t.length : Int) <= k) = false := by simpa using b2
                          have hkn : k.toNat < t.length := by omega
                          have hk0 : (0 : Int) <= k := by omega
                          have hk1 : k < (t.length : Int) := by omega
                          obtain ⟨gb, go, rfl, hgB, vc', vk', n0, n1, n2, n3, hcu, hki⟩ := HG2.out.at k.toNat hkn; obtain ⟨ka, kc, rfl, _⟩ := SlIn.shape hki; have q0 := (HBQ.out.cell (p := ⟨gb, go + k.toNat * 4, none⟩) (by show gb < w.heap.size; omega)).trans n0; have q2 := (HBQ.out.cell (p := ⟨gb, go + k.toNat * 4 + 2, none⟩) (by show gb < w.heap.size; omega)).trans n2; have HR4 := HRR.out; rw [getD_dg _ _ _ hkn] at HR4; have hkl3 : ((t[k.toNat].kids).length = 0 ↔ t[k.toNat].kids = []) := List.length_eq_zero_iff; clear n0 n1 n2 n3 hcu hki HRR b1 b2; generalize t[k.toNat].fact = kf at *
                          generalize t[k.toNat].kids = kk at *
                          generalize kk.length = kl at *
                          by_cases hm0 : m = 0
                          . have hm1 : decide ((0 : Int) < (m : Int)) = false := by simp; omega
                            have hm2 : decide (0 < m) = false := by simp; omega
                            have HR5 : Hid (R = if kk ≠ [] /\ kf <= (i : Int) then false else kidsB t i (some k) (kids.drop (m + 1))) := by
                              show _ = _
                              rw [HR4, show prevO kids m = none by unfold prevO; rw [if_pos hm0]]; congr 1
                              rw [eq_iff_iff]; constructor
                              . rintro (h | h | h | h)
                                . omega
                                . omega
                                . cases h
                                . exact h
                              . intro h; exact .inr (.inr (.inr h))
                            clear HR4 hm0
                            (cases b5 : decide (kk = []) with
                              | true =>
                                (have hq1 : decide ((0 : Int) < (kl : Int)) = false := (by have : kk = [] := (by simpa using b5); have : kl = 0 := hkl3.2 this; simp; omega)
                                 have hq2 : decide (0 < kl) = false := (by simpa using hq1); have HS := Lib.hid (show R = _ by rw [HR5.out, if_neg (fun h => h.1 (by simpa using b5))]); clear HR5
                                 (go_wp2; go_quiet (fail); go_wp2; go_roundw; (case rel => exact ⟨m + 1, by omega, by go_num, hq.out.trans (World.drewN_below _ _ _), (by show _ = _; rw [HNX.out]; exact HS.out)⟩); (case measure => simp [intOf]; omega)))
                              | false =>
                                (have hq1 : decide ((0 : Int) < (kl : Int)) = true := (by have : kk ≠ [] := (by simpa using b5); have : kl ≠ 0 := fun e => this (hkl3.1 e); simp; omega)
                                 have hq2 : decide (0 < kl) = true := (by simpa using hq1); cases b6 : decide (kf <= (i : Int)) with
                                 | true =>
                                   (have HS := Lib.hid (show R = false by rw [HR5.out, if_pos ⟨by simpa using b5, by simpa using b6⟩])
                                    clear HR5
                                    (go_wp2; go_quiet (fail); go_wp2; go_ret; exact ⟨ret_bool HS.out.symm, HBQ.out.trans (World.drewN_below _ _ _)⟩))
                                 | false =>
                                   (have HS := Lib.hid (show R = _ by rw [HR5.out, if_neg (fun h => by have := h.2; simp at b6; omega)])
                                    clear HR5
                                    (go_wp2; go_quiet (fail); go_wp2; go_roundw; (case rel => exact ⟨m + 1, by omega, by go_num, hq.out.trans (World.drewN_below _ _ _), (by show _ = _; rw [HNX.out]; exact HS.out)⟩); (case measure => simp [intOf]; omega)))))
                          . obtain ⟨mp, hmp⟩ : ∃ mp, m = mp + 1 := ⟨m - 1, by omega⟩
                            have hmpl : mp < kids.length := by omega
                            obtain ⟨kb', ko', hk', hkB', hkc'⟩ := SlIn.one HK.out mp hmpl; obtain ⟨rfl, rfl⟩ : kb = kb' /\ ko = ko' := by simpa using hk'
                            have hkc3 := (HBQ.out.cell (p := ⟨kb, ko + mp, none⟩) (by show kb < w.heap.size; omega)).trans hkc'; have hwr : IntKind.i64.wrap ((m : Int) - 1) = (mp : Int) := by rw [IntWalk.i64_in _ (by omega)]; omega
                            have hpv : prevO kids m = some kids[mp] := by unfold prevO; rw [if_neg hm0, hmp, Nat.add_sub_cancel, getD_dg _ _ _ hmpl]
                            have hm1 : decide ((0 : Int) < (m : Int)) = true := by simp; omega
                            have hm2 : decide (0 < m) = true := by simp; omega
                            rw [hpv] at HR4; clear hkc' hpv hk' hmp; generalize kids[mp] = kp at *
                            cases b4 : (kp == k) with
                            | true =>
                              have HS := Lib.hid (show R = false by rw [HR4, if_pos (.inr (.inr (.inl (by rw [eq_of_beq b4]))))]); clear HR4
                              (go_wp2; go_quiet (fail); go_wp2; go_ret; exact ⟨ret_bool HS.out.symm, HBQ.out.trans (World.drewN_below _ _ _)⟩)
                            | false =>
                              have HR5 : Hid (R = if kk ≠ [] /\ kf <= (i : Int) then false else kidsB t i (some k) (kids.drop (m + 1))) := by
                                show _ = _
                                rw [HR4]; congr 1
                                rw [eq_iff_iff]; constructor
                                . rintro (h | h | h | h)
                                  . omega
                                  . omega
                                  . exfalso
                                    have h : kp = k := by simpa using h
                                    rw [h] at b4; simp at b4
                                  . exact h
                                . intro h; exact .inr (.inr (.inr h))
                              clear HR4
                              (cases b5 : decide (kk = []) with
                                | true =>
                                  (have hq1 : decide ((0 : Int) < (kl : Int)) = false := (by have : kk = [] := (by simpa using b5); have : kl = 0 := hkl3.2 this; simp; omega)
                                   have hq2 : decide (0 < kl) = false := (by simpa using hq1); have HS := Lib.hid (show R = _ by rw [HR5.out, if_neg (fun h => h.1 (by simpa using b5))]); clear HR5
                                   (go_wp2; go_quiet (fail); go_wp2; go_roundw; (case rel => exact ⟨m + 1, by omega, by go_num, hq.out.trans (World.drewN_below _ _ _), (by show _ = _; rw [HNX.out]; exact HS.out)⟩); (case measure => simp [intOf]; omega)))
                                | false =>
                                  (have hq1 : decide ((0 : Int) < (kl : Int)) = true := (by have : kk ≠ [] := (by simpa using b5); have : kl ≠ 0 := fun e => this (hkl3.1 e); simp; omega)
                                   have hq2 : decide (0 < kl) = true := (by simpa using hq1); cases b6 : decide (kf <= (i : Int)) with
                                   | true =>
                                     (have HS := Lib.hid (show R = false by rw [HR5.out, if_pos ⟨by simpa using b5, by simpa using b6⟩])
                                      clear HR5
                                      (go_wp2; go_quiet (fail); go_wp2; go_ret; exact ⟨ret_bool HS.out.symm, HBQ.out.trans (World.drewN_below _ _ _)⟩))
                                   | false =>
                                     (have HS := Lib.hid (show R = _ by rw [HR5.out, if_neg (fun h => by have := h.2; simp at b6; omega)])
                                      clear HR5
                                      (go_wp2; go_quiet (fail); go_wp2; go_roundw; (case rel => exact ⟨m + 1, by omega, by go_num, hq.out.trans (World.drewN_below _ _ _), (by show _ = _; rw [HNX.out]; exact HS.out)⟩); (case measure => simp [intOf]; omega)))))
                    . have hRR := hRm.out
                      rw [List.drop_of_length_le (by omega)] at hRR; have HS := Lib.hid (show R = true by rw [hRR]; cases prevO kids m <;> rfl); clear hRR; go_wp2; go_ret; exact ⟨ret_bool HS.out.symm, HBQ.out⟩
end Go.Proofs.YtejbgoigkefnfaaGreatDoor
