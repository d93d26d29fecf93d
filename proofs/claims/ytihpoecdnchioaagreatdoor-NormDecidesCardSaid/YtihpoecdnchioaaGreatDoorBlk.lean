/- The walk of norm.Blocked. A bound on the number of provisions and on the conditions' sizes. -/
import Derived.Test.YtihpoecdnchioaaGreatDoorApl
namespace Go.Proofs.YtihpoecdnchioaaGreatDoor
open Go.RowKit Tj

/-- Blocked's error -/
def blkE (d : List Fa) (ps : List Pv) (c : List Int) (id : ByteArray) : Int := if askE d ps c = 0 then (if ((atK (ps.map Pv.id) ps.length).lookup id).isSome then 0 else 11) else askE d ps c
/-- what keeps a provision from applying -/
def blkL (d : List Fa) (ps : List Pv) (c : List Int) (id : ByteArray) : List ByteArray :=
  match (atK (ps.map Pv.id) ps.length).lookup id with
  | some x => (((rowsOf ps).getD x.toNat []).filter (apA d ps c (rowsOf ps))).map (idAt ps)
  | none => []

theorem filter_take_succ (p : Nat → Bool) (l : List Nat) (k : Nat) (hk : k < l.length) : (l.take (k + 1)).filter p = (l.take k).filter p ++ if p l[k] then [l[k]] else [] := by
  rw [List.take_succ_eq_append_getElem hk, List.filter_append]
  congr 1
  cases h : p l[k] <;> simp [h]

theorem rowsOf_le {ps : List Pv} (hn : (ps.map Pv.id).Nodup) (k : Nat) (hk : k < ps.length) : ((rowsOf ps).getD k []).length ≤ ps.length := by
  rw [rowsOf_get hn k hk]
  have := List.length_filter_le (fun j => inB ((ps.map Pv.except).getD j []) ps[k].id) (List.range ps.length)
  rwa [List.length_range] at this

section
set_option maxRecDepth 100000 in
set_option maxHeartbeats 8000000 in
theorem blk_any (d : List Fa) (ps : List Pv) (c : List Int) (id : ByteArray) (v cv : Value) (w : World) (B : Nat) (hn : ps.length ≤ 1000) (hB : B ≤ w.heap.size) (hl : LawIn w B d ps v) (hex : ∀ p ∈ ps, p.except.length ≤ 30) (hsz : ∀ p ∈ ps, p.cond.size ≤ 1000000) (hc : IntsIn w B c cv) :
    Calls Tryz.prog 14 #[v, .string id, cv] w fun e w' => ∃ u, e = .returned (.tuple #[u, .int .i64 (blkE d ps c id)]) ∧ Below w.heap.size w w' ∧ StrsIn w' w'.heap.size (if blkE d ps c id = 0 then blkL d ps c id else []) u := by
  have hl0 := hl
  obtain ⟨u1, u2, asn, ns, cs, rfl, hd, hp⟩ := hl
  obtain ⟨ad, cd, rfl, d1, d2, _⟩ := SlIn.shape hd
  obtain ⟨ap, cp, rfl, p1, p2, _⟩ := SlIn.shape hp
  have hc0 := hc
  obtain ⟨ac, cc, rfl, c1, c2, _⟩ := SlIn.shape hc
  unfold maxLen at p2
  have hbw : Below w.heap.size w (w.alloc (.cells #[.slice ad d.length cd, .slice ap ps.length cp, .slice asn ns cs] 28)) := (Below.refl _ _).alloc (Nat.le_refl _) _
  have K0 := Blk.new w 28 #[.slice ad d.length cd, .slice ap ps.length cp, .slice asn ns cs]
  have x0 : (w.alloc (.cells #[.slice ad d.length cd, .slice ap ps.length cp, .slice asn ns cs] 28)).cell? ⟨w.heap.size, 0, none⟩ = some (.slice ad d.length cd) := K0.cell 0
  have x1 : (w.alloc (.cells #[.slice ad d.length cd, .slice ap ps.length cp, .slice asn ns cs] 28)).cell? ⟨w.heap.size, 1, none⟩ = some (.slice ap ps.length cp) := K0.cell 1
  have x2 : (w.alloc (.cells #[.slice ad d.length cd, .slice ap ps.length cp, .slice asn ns cs] 28)).cell? ⟨w.heap.size, 2, none⟩ = some (.slice asn ns cs) := K0.cell 2
  have HASK := Lib.hid (ask_any d ps c _ _ (w.alloc (.cells #[.slice ad d.length cd, .slice ap ps.length cp, .slice asn ns cs] 28)) B hn (by simp; omega) (hl0.below (hbw.mono hB)) hex hsz (hc0.below (hbw.mono hB)))
  have HBW := Lib.hid hbw
  have HP := Lib.hid hp
  have HSZ := Lib.hid hsz
  have HAZ := Lib.hid (fun h => askE_zero (d := d) (ps := ps) (c := c) h)
  clear hl0 hd hp hc hc0 hbw K0 hex hsz
  by_cases hz : askE d ps c = 0
  · have HZ := Lib.hid (HAZ.out hz)
    have hE : blkE d ps c id = if ((atK (ps.map Pv.id) ps.length).lookup id).isSome then 0 else 11 := by unfold blkE; rw [if_pos hz]
    rw [hz] at HASK
    cases hlo : (atK (ps.map Pv.id) ps.length).lookup id with
    | none =>
      rw [hlo] at hE
      simp only [Option.isSome_none, Bool.false_eq_true, if_false] at hE
      rw [hE, if_neg (by decide)]
      clear HAZ hz hE
      have HLO := Lib.hid hlo
      clear hlo
      go_enter Tryz.func14, Tryz.ntmps14
      go_wp2_with (go_at_call 28; refine HASK.out.mono ?_; rintro e w1 ⟨q, rfl, hb1, hq⟩; obtain ⟨ab, nb, bb, mk, mb, ad', cd', ap', cp', ac', cc', rfl, hE, hmk, hK, hmb, y3, hmp⟩ := hq rfl; have HB1 := Lib.hid hb1; have y4 := hE.a0; have hlk := run_look_ok MapStr.key Tryz.underlying74 zero_int hmp id; rw [HLO.out] at hlk; clear hb1 hq hE hK hmp)
      go_ret2
      exact ⟨.slice none 0 0, rfl, HBW.out.trans (HB1.out.mono (by simp)), none, 0, rfl, Nat.le_refl _, Nat.zero_le _, fun h => absurd rfl h⟩
    | some x =>
      rw [hlo] at hE
      simp only [Option.isSome_some, if_true] at hE
      obtain ⟨q1, q2, q3⟩ := atK_some _ _ _ _ hlo
      obtain ⟨xn, rfl⟩ : ∃ xn : Nat, x = (xn : Int) := ⟨x.toNat, by omega⟩
      rw [Int.toNat_natCast] at q2
      have hbl : blkL d ps c id = (((rowsOf ps).getD xn []).filter (apA d ps c (rowsOf ps))).map (idAt ps) := by unfold blkL; rw [hlo]; simp
      rw [hE, if_pos rfl, hbl]
      have hrl0 := rowsOf_le ((okP_iff ps).1 HZ.out.1) xn q2
      obtain ⟨rl, hrl⟩ : ∃ rl, (rowsOf ps).getD xn [] = rl := ⟨_, rfl⟩
      rw [hrl] at hrl0 ⊢
      have HRL := Lib.hid hrl
      clear HAZ hz hE q3 hbl hrl
      have HLO := Lib.hid hlo
      clear hlo
      obtain ⟨i0, hi0, hx0, hx1, hx2⟩ := info_parts strInfo
      go_enter Tryz.func14, Tryz.ntmps14
      go_wp2_with (go_at_call 28; refine HASK.out.mono ?_; rintro e w1 ⟨q, rfl, hb1, hq⟩; obtain ⟨ab, nb, bb, mk, mb, ad', cd', ap', cp', ac', cc', rfl, hE, hmk, hK, hmb, y3, hmp⟩ := hq rfl; have HB1 := Lib.hid hb1; have y4 := hE.a0; have y5 := hE.n4; obtain ⟨rv0, y6, hri⟩ := hE.rw_ xn q2; obtain ⟨ra, rc, rfl, r1, r2, _⟩ := SlIn.shape hri; rw [List.length_map] at y6 hri r1; rw [HRL.out] at y6 hri r1; have HRI := Lib.hid hri; have hrt := hE.rlt xn; rw [HRL.out] at hrt; have HRT := Lib.hid hrt; have hmB := hE.hB; have HE := Lib.hid hE; have HK := Lib.hid (hK (apA d ps c (rowsOf ps))); have s1 := hE.mlt; have s2 := hE.alt; simp only [World.size_alloc] at hmk; have hlk := run_look_ok MapStr.key Tryz.underlying74 zero_int hmp id; rw [HLO.out] at hlk; have y1 := (hb1.cell (p := ⟨w.heap.size, 1, none⟩) (by simp)).trans x1; clear hb1 hq hE hK hmp hri hrt)
      unfold maxLen at r2
      go_loopw [12, 49] (fun vo iv wr => ∃ k : Nat, k ≤ rl.length ∧ iv = .int .i64 k ∧ Hid (wr.ownsRow w1.heap.size 9 1 vo ((rl.take k).filter (apA d ps c (rowsOf ps))).length (((rl.take k).filter (apA d ps c (rowsOf ps))).map fun j => .string (idAt ps j))) ∧ Hid (Kn w1 mk ab (apA d ps c (rowsOf ps)) wr)) (fun _ iv _ => rl.length - (intOf iv).toNat)
      case atStart => exact ⟨0, Nat.zero_le _, rfl, ⟨rfl, .inl ⟨rfl, rfl⟩⟩, HK⟩
      case round =>
        obtain ⟨k, hk, rfl, hown, hkn⟩ := hrel
        by_cases hlt : k < rl.length
        · have b0 : Below w.heap.size w wr := (HBW.out.trans (HB1.out.mono (by simp))).trans (hkn.out.bel.mono (by omega))
          have hs1 := hkn.out.bel.size
          obtain ⟨rb, ro, rfl, hrb, hrc⟩ := SlIn.one (HRI.out.below hkn.out.bel) k (by rw [List.length_map]; exact hlt)
          rw [List.getElem_map] at hrc
          have hyl := HRT.out _ (List.getElem_mem hlt)
          have hfs := filter_take_succ (apA d ps c (rowsOf ps)) rl k hlt
          have hfl : ((rl.take k).filter (apA d ps c (rowsOf ps))).length ≤ k := by
            have := List.length_filter_le (apA d ps c (rowsOf ps)) (rl.take k)
            rw [List.length_take] at this; omega
          generalize rl[k] = y at *
          have hid := idAt_eq hyl
          obtain ⟨b, off, rfl, hbB, ak, ck, ae, ce, hr, hf, he, hzz⟩ := SlIn.at (HP.out.below PvR.kept (b0.mono hB)) y hyl
          have HAP := Lib.hid (applies_any wr B ab nb bb mk d ps c (rowsOf ps) ad' cd' ap' cp' ac' cc' (HE.out.move hkn.out) HSZ.out HZ.out.2.2.2 y wr hyl hkn.out.base)
          generalize ps[y] = p at *
          have hr0 := hr 0 _ rfl
          have y0i : (0 : Int) ≤ (y : Int) := Int.natCast_nonneg _
          have y1i : (y : Int) < (ps.length : Int) := by omega
          have HB0 := Lib.hid b0
          have HID := Lib.hid hid
          have HFS := Lib.hid hfs
          have HO := hown
          have HY1 := Lib.hid y1
          clear hr hf he hzz b0 hid hfs hown y1 y3 y4 y5 y6 hlk x0 x1 x2
          cases hap : apA d ps c (rowsOf ps) y with
          | false =>
            rw [hap] at HAP HFS
            have HF : Hid ((rl.take (k + 1)).filter (apA d ps c (rowsOf ps)) = (rl.take k).filter (apA d ps c (rowsOf ps))) := by show _ = _; rw [HFS.out]; simp
            clear HFS
            go_wp2_with (go_at_call 29; refine HAP.out.mono ?_; rintro e w2 ⟨rfl, hk2⟩; have HO2 := Lib.hid (row_kn HO.out (Below.refl _ _) hk2 (by omega)); have HK2 := Lib.hid (hkn.out.trans hk2); clear hk2)
            go_roundw
            case rel => exact ⟨k + 1, by omega, by go_num, by rw [HF.out]; exact HO2, HK2⟩
            case measure => simp [intOf]; omega
          | true =>
            rw [hap] at HAP HFS
            have HF : Hid ((rl.take (k + 1)).filter (apA d ps c (rowsOf ps)) = (rl.take k).filter (apA d ps c (rowsOf ps)) ++ [y]) := by show _ = _; rw [HFS.out]; simp
            clear HFS
            generalize hfe : (rl.take k).filter (apA d ps c (rowsOf ps)) = fl at *
            go_wp2_with (first
              | (go_at_call 29; refine HAP.out.mono ?_; rintro e w2 ⟨rfl, hk2⟩; have HO2 := Lib.hid (row_kn HO.out (Below.refl _ _) hk2 (by omega)); have HK2 := Lib.hid (hkn.out.trans hk2); have z0 := (hk2.bel.cell (p := ⟨b, off + y * 23 + 0, none⟩) (by simp; omega)).trans hr0; rw [Nat.add_zero] at z0; have z1 := (HK2.out.bel.cell (p := ⟨w.heap.size, 1, none⟩) (by simp; omega)).trans HY1.out; have hz2s := hk2.gr.size; clear hk2)
              | (at_builtin; refine wpList_append_own_at _ rfl _ _ 32 rfl w1.heap.size 9 i0 _ 1 16 Tryz.underlying32 hi0 hx0 hx1 hx2 rfl (by decide) _ fl.length _ rfl (HO2.out.alloc _) ⟨w2.heap.size, 0, none⟩ 1 1 [.string p.id] rfl rfl (cell_one_new _ _ _) (by simp [Value.oneCell']) (by unfold maxLen; omega) (by omega) (by simp; omega) ?_; intro v9 w9 hown9 hgrow9 hnil9 hat9; have HK9 := Lib.hid ((HK2.out.below s1 s2 ((Below.refl _ _).alloc (Nat.le_refl _) (.cells #[.string p.id] 9))).grown s1 s2 hgrow9 (own_ge HO2.out)); have HO9 := Lib.hid hown9; clear hown9 hgrow9 hnil9 hat9))
            clear z0 z1
            go_roundw
            case rel =>
              refine ⟨k + 1, by omega, by go_num, ?_, HK9⟩
              show World.ownsRow _ _ _ _ _ _ _
              rw [HF.out, List.length_append, List.map_append, List.map_cons, List.map_nil, HID.out]
              exact HO9.out
            case measure => simp [intOf]; omega
        · have hkn2 : k = rl.length := by omega
          subst hkn2
          have HO := hown
          clear hown hk hlt
          go_wp2
          go_ret2
          refine ⟨_, rfl, (HBW.out.trans (HB1.out.mono (by simp))).trans (hkn.out.bel.mono (by omega)), ?_⟩
          refine own_strs (base := w1.heap.size) ?_ (Nat.le_refl _)
          have h := HO.out
          rw [List.take_length] at h
          rw [List.length_map, List.map_map]
          exact h
  · have hE : blkE d ps c id = askE d ps c := by unfold blkE; rw [if_neg hz]
    rw [hE, if_neg hz]
    have e0 : (askE d ps c != 0) = true := by simpa using hz
    generalize askE d ps c = er at *
    clear HAZ hz hE
    go_enter Tryz.func14, Tryz.ntmps14
    go_wp2_with (go_at_call 28; refine HASK.out.mono ?_; rintro e w1 ⟨q, rfl, hb1, _⟩; have HB1 := Lib.hid hb1; clear hb1)
    go_ret2
    exact ⟨.slice none 0 0, rfl, HBW.out.trans (HB1.out.mono (by simp)), none, 0, rfl, Nat.le_refl _, Nat.zero_le _, fun h => absurd rfl h⟩
end

end Go.Proofs.YtihpoecdnchioaaGreatDoor
