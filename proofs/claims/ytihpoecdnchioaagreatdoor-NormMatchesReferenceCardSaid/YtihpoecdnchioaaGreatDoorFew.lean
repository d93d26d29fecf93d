/- The walk of pandectref14.Few: the sizes of a law. No conditions beyond bounds on n. -/
import Derived.Test.YtihpoecdnchioaaGreatDoorR14
import Derived.Test.YtihpoecdnchioaaGreatDoorCount
import Derived.Test.YtihpoecdnchioaaGreatDoorLaws
namespace Go.Proofs.YtihpoecdnchioaaGreatDoor
open Go.RowKit

/-- a provision of moderate size -/
def fewP (p : Pv) : Bool := smallF p.cond 250 && decide (p.except.length ≤ 30) && decide (p.id.size ≤ 100) && decide (p.name.size ≤ 100) && p.except.all fun s => decide (s.size ≤ 100)
def fewL (d : List Fa) (ps : List Pv) (n : Int) : Bool := decide ((ps.length : Int) ≤ n) && decide (d.length ≤ 70) && ps.all fewP

theorem Pv.info : (Tryz.prog.info? 49).map (·.size) = some 23 := by kernel_rfl

theorem fewP_no (p : Pv) (h : (30 : Int) < p.except.length ∨ (100 : Int) < p.id.size ∨ (100 : Int) < p.name.size) : fewP p = false := by
  unfold fewP
  rcases h with h | h | h
  · rw [show decide (p.except.length ≤ 30) = false by simp; omega]; simp
  · rw [show decide (p.id.size ≤ 100) = false by simp; omega]; simp
  · rw [show decide (p.name.size ≤ 100) = false by simp; omega]; simp
theorem fewP_yes (p : Pv) (hs : smallF p.cond 250 = true) (h1 : (p.except.length : Int) ≤ 30) (h2 : (p.id.size : Int) ≤ 100) (h3 : (p.name.size : Int) ≤ 100) :
    fewP p = p.except.all fun s => decide (s.size ≤ 100) := by
  unfold fewP
  rw [hs, show decide (p.except.length ≤ 30) = true by simp; omega, show decide (p.id.size ≤ 100) = true by simp; omega, show decide (p.name.size ≤ 100) = true by simp; omega]
  simp

set_option maxRecDepth 100000 in
set_option maxHeartbeats 400000 in
theorem few_any (d : List Fa) (ps : List Pv) (n : Int) (v : Value) (w : World) (B : Nat) (hn0 : 0 ≤ n) (hn1 : n ≤ 1000) (hB : B ≤ w.heap.size) (hl : LawIn w B d ps v) :
    Calls Tryz.prog 11 #[v, .int .i64 n] w fun e w' => e = .returned (.bool (fewL d ps n)) ∧ Below w.heap.size w w' := by
  obtain ⟨u1, u2, asn, ns, cs, rfl, hd, hp⟩ := hl
  obtain ⟨ad, cd, rfl, d1, d2, _⟩ := SlIn.shape hd
  obtain ⟨ap, cp, rfl, p1, p2, _⟩ := SlIn.shape hp
  unfold maxLen at d2 p2
  have HP := Lib.hid hp
  clear hd hp
  by_cases h1 : (ps.length : Int) ≤ n
  · have h1d : decide (n < (ps.length : Int)) = false := by simpa using h1
    by_cases h2 : d.length ≤ 70
    · have h2d : decide ((70 : Int) < (d.length : Int)) = false := by simp; omega
      have HR : Hid (fewL d ps n = ps.all fewP) := by show _ = _; unfold fewL; simp [h1, h2]
      generalize fewL d ps n = R at *
      go_enter Tryz.func11, Tryz.ntmps11
      go_wp2
      go_loopw [5] (fun i wr => ∃ k : Nat, k ≤ ps.length ∧ i = .int .i64 k ∧ Hid ((ps.take k).all fewP = true) ∧ Below w.heap.size w wr ∧ w.heap.size < wr.heap.size ∧
        wr.cell? ⟨w.heap.size, 1, none⟩ = some (.slice ap ps.length cp)) (fun i _ => ps.length - (intOf i).toNat)
      case atStart => exact ⟨0, by omega, rfl, rfl, (Below.refl _ _).alloc (Nat.le_refl _) _, by simp, by go_simp⟩
      case round =>
        obtain ⟨k, hk, rfl, hin, hb, hsz, hc1⟩ := hrel
        by_cases hlt : k < ps.length
        · obtain ⟨b, off, rfl, hbB, ak, ck, ae, ce, hr, hf, he, hz⟩ := SlIn.at (HP.out.below PvR.kept (hb.mono hB)) k hlt
          have hts := all_take fewP ps k hlt
          rw [hin.out, Bool.true_and] at hts
          have hno : fewP ps[k] = false → R = false := fun h => by rw [HR.out]; exact all_false hlt h
          generalize hpk : ps[k] = p at *
          have HN := Lib.hid hno
          have HT := Lib.hid hts
          have HPK := Lib.hid hpk
          have HF := Lib.hid hf
          have HE := Lib.hid he
          have HZ := Lib.hid hz
          have HRG := Lib.hid hr
          clear hno hts hpk hf he hz hin hr
          cases hs : smallF p.cond 250 with
          | false =>
            have HS := Lib.hid (HN.out (by unfold fewP; simp [hs]))
            go_wp2_with (first
              | ((with_reducible show wpList _ _ _ (⟨_, Op.load 49 (.tmp 30), _, _, _, _⟩ :: _) _ _); refine wpList_load_pv rfl (.tmp 30) rfl rfl p ak ck ae ce HRG.out Tryz.underlying49 rfl Pv.info ?_)
              | ((with_reducible show wpList _ _ _ (⟨_, Op.store 49 (.tmp 6) (.tmp 31), _, _, _, _⟩ :: _) _ _); refine wpList_store_pv rfl (.tmp 6) (.tmp 31) rfl p ak ck ae ce rfl rfl ?hs1 Pv.info ?_; (case hs1 => rfl); intro W1 hb1 hz1 hr1 hf1; have e1_0 := hr1 0 _ rfl; have e1_3 := hr1 3 _ rfl; have e1_5 := hr1 5 _ rfl; have e1_6 := hr1 6 _ rfl; have e1_7 := hr1 7 _ rfl; have e1_8 := hr1 8 _ rfl; have e1_9 := hr1 9 _ rfl; have e1_10 := hr1 10 _ rfl; have HR1 := Lib.hid hr1; clear hr1)
              | (go_at_call 24; refine (small_any p.cond 250 _ _ B (by omega) (by omega) ?_ ?_).mono ?_; (omega); exact Fo.In.below (hb1.mono (by omega)) _ _ HF.out; rintro e w2 ⟨rfl, hb2⟩))
            go_ret
            exact ⟨ret_bool HS.out.symm, (hb.trans (hb1.mono (by omega))).trans (hb2.mono (by omega))⟩
          | true =>
            have HA := Lib.hid (fewP_yes p hs)
            go_wp2_with (first
              | ((with_reducible show wpList _ _ _ (⟨_, Op.load 49 (.tmp 30), _, _, _, _⟩ :: _) _ _); refine wpList_load_pv rfl (.tmp 30) rfl rfl p ak ck ae ce HRG.out Tryz.underlying49 rfl Pv.info ?_)
              | ((with_reducible show wpList _ _ _ (⟨_, Op.store 49 (.tmp 6) (.tmp 31), _, _, _, _⟩ :: _) _ _); refine wpList_store_pv rfl (.tmp 6) (.tmp 31) rfl p ak ck ae ce rfl rfl ?hs1 Pv.info ?_; (case hs1 => rfl); intro W1 hb1 hz1 hr1 hf1; have e1_0 := hr1 0 _ rfl; have e1_3 := hr1 3 _ rfl; have e1_5 := hr1 5 _ rfl; have e1_6 := hr1 6 _ rfl; have e1_7 := hr1 7 _ rfl; have e1_8 := hr1 8 _ rfl; have e1_9 := hr1 9 _ rfl; have e1_10 := hr1 10 _ rfl; have HR1 := Lib.hid hr1; clear hr1)
              | (go_at_call 24; refine (small_any p.cond 250 _ _ B (by omega) (by omega) ?_ ?_).mono ?_; (omega); exact Fo.In.below (hb1.mono (by omega)) _ _ HF.out; rintro e w2 ⟨rfl, hb2⟩; have q10 := (hb2.cell (p := ⟨wr.heap.size, 10, none⟩) (by simp; omega)).trans e1_10; have q0 := (hb2.cell (p := ⟨wr.heap.size, 0, none⟩) (by simp; omega)).trans e1_0; have q3 := (hb2.cell (p := ⟨wr.heap.size, 3, none⟩) (by simp; omega)).trans e1_3; have hz2 := hb2.size))
            · have HS := Lib.hid (HN.out (fewP_no p (by omega)))
              go_ret
              exact ⟨ret_bool HS.out.symm, (hb.trans (hb1.mono (by omega))).trans (hb2.mono (by omega))⟩
            · have HF' := Lib.hid (HA.out (by omega) (by omega) (by omega))
              have HE2 := Lib.hid (StrsIn.below ((hb1.mono (B' := B) (by omega)).trans (hb2.mono (by omega))) HE.out)
              have hbb := Lib.hid ((hb.trans (hb1.mono (by omega))).trans (hb2.mono (by omega)))
              have c1' := (hb2.cell (p := ⟨w.heap.size, 1, none⟩) (by simp; omega)).trans ((hb1.cell (p := ⟨w.heap.size, 1, none⟩) (by simp; omega)).trans hc1)
              have hlen : p.except.length ≤ 30 := by omega
              clear hb1 hb2 HE HA e1_0 e1_3 e1_5 e1_6 e1_7 e1_8 e1_9 e1_10 q0 q3 HR1 hc1
              go_loop [7] (fun i => ∃ j : Nat, j ≤ p.except.length ∧ i = .int .i64 j ∧ Hid ((p.except.take j).all (fun s => decide (s.size ≤ 100)) = true)) (fun i => p.except.length - (intOf i).toNat)
              case atStart => exact ⟨0, by omega, rfl, rfl⟩
              case round =>
                obtain ⟨j, hj, rfl, hja⟩ := hrel
                by_cases hjl : j < p.except.length
                · obtain ⟨b3, o3, rfl, hb3, hc3⟩ := SlIn.one HE2.out j hjl
                  have ht := all_take (fun s : ByteArray => decide (s.size ≤ 100)) p.except j hjl
                  rw [hja.out, Bool.true_and] at ht
                  have HT2 := Lib.hid ht
                  clear ht
                  by_cases hsz3 : p.except[j].size ≤ 100
                  · have g4 : decide ((100 : Int) < (p.except[j].size : Int)) = false := by simp; omega
                    have HT3 : Hid ((p.except.take (j + 1)).all (fun s => decide (s.size ≤ 100)) = true) := by have := HT2.out; show _ = _; rw [this]; simpa using hsz3
                    go_wp2
                    go_round
                    case rel => exact ⟨j + 1, by omega, by go_num, HT3⟩
                    case measure => simp [intOf]; omega
                  · have g4 : (100 : Int) < (p.except[j].size : Int) := by omega
                    have HS := Lib.hid (HN.out (by rw [HF'.out]; exact all_false hjl (by simpa using hsz3)))
                    clear hsz3
                    go_wp2
                    go_ret
                    exact ⟨ret_bool HS.out.symm, hbb.out⟩
                · have HY : Hid (fewP p = true) := by
                    have := hja.out
                    rw [List.take_of_length_le (by omega)] at this
                    show _ = _
                    rw [HF'.out, this]
                  clear hja
                  go_wp2
                  go_roundw
                  case rel => exact ⟨k + 1, by omega, by go_num, by have h := HT.out; rw [HY.out] at h; exact h, hbb.out, by omega, c1'⟩
                  case measure => simp [intOf]; omega
            · have HS := Lib.hid (HN.out (fewP_no p (by omega)))
              go_ret
              exact ⟨ret_bool HS.out.symm, (hb.trans (hb1.mono (by omega))).trans (hb2.mono (by omega))⟩
            · have HS := Lib.hid (HN.out (fewP_no p (by omega)))
              go_ret
              exact ⟨ret_bool HS.out.symm, (hb.trans (hb1.mono (by omega))).trans (hb2.mono (by omega))⟩
        · have HS : Hid (R = true) := by
            have := hin.out
            rw [List.take_of_length_le (by omega)] at this
            show _ = _
            rw [HR.out, this]
          clear hin HR
          go_wp2
          go_ret
          exact ⟨ret_bool HS.out.symm, hb⟩
    · have h2d : decide ((70 : Int) < (d.length : Int)) = true := by simp; omega
      have HR : Hid (fewL d ps n = false) := by show _ = _; unfold fewL; simp [h2]
      generalize fewL d ps n = R at *
      clear h2
      go_enter Tryz.func11, Tryz.ntmps11
      go_wp2
      go_ret
      exact ⟨ret_bool HR.out.symm, (Below.refl _ _).alloc (Nat.le_refl _) _⟩
  · have h1d : decide (n < (ps.length : Int)) = true := by simpa using h1
    have HR : Hid (fewL d ps n = false) := by show _ = _; unfold fewL; simp [h1]
    generalize fewL d ps n = R at *
    clear h1
    go_enter Tryz.func11, Tryz.ntmps11
    go_wp2
    go_ret
    exact ⟨ret_bool HR.out.symm, (Below.refl _ _).alloc (Nat.le_refl _) _⟩

end Go.Proofs.YtihpoecdnchioaaGreatDoor
