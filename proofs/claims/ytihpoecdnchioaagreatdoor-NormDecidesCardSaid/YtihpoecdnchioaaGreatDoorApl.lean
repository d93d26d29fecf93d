/- The walks of norm.Applies, norm.Blocked. A bound on the number of provisions and on the conditions' sizes. -/
import Derived.Test.YtihpoecdnchioaaGreatDoorAsk2
import Derived.Test.YtihpoecdnchioaaGreatDoorAp
namespace Go.Proofs.YtihpoecdnchioaaGreatDoor
open Go.RowKit Tj

theorem strInfo : (Tryz.prog.info? 9).map (fun i => (i.zero, i.size, i.bytes)) = some (some (.string ByteArray.empty), 1, 16) := by kernel_rfl

def idAt (ps : List Pv) (j : Nat) : ByteArray := (ps.map Pv.id).getD j default
theorem idAt_eq {ps : List Pv} {k : Nat} (h : k < ps.length) : idAt ps k = ps[k].id := by unfold idAt; simp [List.getD_eq_getElem?_getD, h]
/-- the provisions that apply -/
def appliedL (d : List Fa) (ps : List Pv) (c : List Int) : List ByteArray := ((List.range ps.length).filter (apA d ps c (rowsOf ps))).map (idAt ps)

theorem own_strs {W : World} {base : Nat} {v : Value} {l : List ByteArray} (h : W.ownsRow base 9 1 v l.length (l.map Value.string)) {B : Nat} (hB : W.heap.size ≤ B) : StrsIn W B l v := by
  rcases h.2 with ⟨rfl, h0⟩ | ⟨g, cap, cur, rfl, _, hg, h1, h2, h3, h4⟩
  · have : l = [] := List.length_eq_zero_iff.1 h0
    subst this
    exact ⟨none, 0, rfl, Nat.zero_le _, Nat.zero_le _, fun e => absurd rfl e⟩
  · refine ⟨some ⟨g, 0, none⟩, cap, rfl, h1, h2, fun _ => ⟨g, 0, rfl, ?_, fun i hi => ?_⟩⟩
    · exact Nat.lt_of_lt_of_le (Array.getElem?_eq_some_iff.1 hg).1 hB
    · have h5 : (cur.toList.take (l.length * 1))[i]? = (l.map Value.string)[i]? := by rw [h4]
      rw [List.getElem?_take_of_lt (by omega), List.getElem?_map, List.getElem?_eq_getElem hi] at h5
      show W.cell? ⟨g, 0 + i * 1, none⟩ = some (.string _)
      simp only [World.cell?, hg]
      simpa using h5

theorem askE_zero {d : List Fa} {ps : List Pv} {c : List Int} (h : askE d ps c = 0) : okP ps = true ∧ fitsD d c = true ∧ ps.any (badF d) = false ∧ circS (eB (edg (rowsOf ps))) ps.length = [] := by
  unfold askE at h
  by_cases h1 : okP ps = true ∧ fitsD d c = true ∧ ps.any (badF d) = false
  · rw [if_pos h1] at h
    by_cases h2 : circS (eB (edg (rowsOf ps))) ps.length = []
    · exact ⟨h1.1, h1.2.1, h1.2.2, h2⟩
    · rw [if_neg h2] at h; cases h
  · rw [if_neg h1] at h; cases h

theorem filter_range_succ (p : Nat → Bool) (k : Nat) : (List.range (k + 1)).filter p = (List.range k).filter p ++ if p k then [k] else [] := by
  rw [List.range_succ, List.filter_append]
  congr 1
  cases h : p k <;> simp [h]

theorem row_kn {wr W1 w2 : World} {mk ab base e size n : Nat} {ap : Nat → Bool} {v : Value} {xs : List Value} (h : wr.ownsRow base e size v n xs) (hb : Below wr.heap.size wr W1) (hk : Kn W1 mk ab ap w2) (hm : mk < base) : w2.ownsRow base e size v n xs := by
  have h1 : W1.ownsRow base e size v n xs := h.kept (row := none) ⟨hb.os, hb.tape, hb.output, hb.size, fun k hk _ => hb.block k hk⟩ (by
    rcases h.2 with ⟨rfl, _⟩ | ⟨g, cap, cur, rfl, _⟩
    · exact .inl rfl
    · right; simp [Value.ownBlock])
  refine h1.kept hk.gr ?_
  rcases h.2 with ⟨rfl, _⟩ | ⟨g, cap, cur, rfl, hg, _⟩
  · exact .inl rfl
  · right; simp only [Value.ownBlock]; intro e; simp at e; omega
theorem own_ge {w : World} {base e size n : Nat} {v : Value} {xs : List Value} (h : w.ownsRow base e size v n xs) : ∀ b, v.ownBlock = some b → base ≤ b := by
  intro b hb
  rcases h.2 with ⟨rfl, _⟩ | ⟨g, cap, cur, rfl, hg, _⟩
  · cases hb
  · cases hb; exact hg

section
set_option maxRecDepth 100000 in
set_option maxHeartbeats 8000000 in
theorem appl_any (d : List Fa) (ps : List Pv) (c : List Int) (v cv : Value) (w : World) (B : Nat) (hn : ps.length ≤ 1000) (hB : B ≤ w.heap.size) (hl : LawIn w B d ps v) (hex : ∀ p ∈ ps, p.except.length ≤ 30) (hsz : ∀ p ∈ ps, p.cond.size ≤ 1000000) (hc : IntsIn w B c cv) :
    Calls Tryz.prog 12 #[v, cv] w fun e w' => ∃ u, e = .returned (.tuple #[u, .int .i64 (askE d ps c)]) ∧ Below w.heap.size w w' ∧ StrsIn w' w'.heap.size (if askE d ps c = 0 then appliedL d ps c else []) u := by
  have hl0 := hl
  obtain ⟨u1, u2, asn, ns, cs, rfl, hd, hp⟩ := hl
  obtain ⟨ad, cd, rfl, d1, d2, _⟩ := SlIn.shape hd
  obtain ⟨ap, cp, rfl, p1, p2, _⟩ := SlIn.shape hp
  have hc0 := hc
  obtain ⟨ac, cc, rfl, c1, c2, _⟩ := SlIn.shape hc
  unfold maxLen at p2
  have hbw : Below w.heap.size w (w.alloc (.cells #[.slice ad d.length cd, .slice ap ps.length cp, .slice asn ns cs] 28)) := (Below.refl _ _).alloc (Nat.le_refl _) _
  have K0 := Blk.new w 28 #[.slice ad d.length cd, .slice ap ps.length cp, .slice asn ns cs]
  have x0 : (w.alloc (.cells #[.slice ad d.length cd, .slice ap ps.length cp, .slice asn ns cs] 28)).cell? ⟨w.heap.size, 0, none⟩ = some (.slice ad d.length cd) := K0.cell 0
  have x1 : (w.alloc (.cells #[.slice ad d.length cd, .slice ap ps.length cp, .slice asn ns cs] 28)).cell? ⟨w.heap.size, 1, none⟩ = some (.slice ap ps.length cp) := K0.cell 1
  have x2 : (w.alloc (.cells #[.slice ad d.length cd, .slice ap ps.length cp, .slice asn ns cs] 28)).cell? ⟨w.heap.size, 2, none⟩ = some (.slice asn ns cs) := K0.cell 2
  have HASK := Lib.hid (ask_any d ps c _ _ (w.alloc (.cells #[.slice ad d.length cd, .slice ap ps.length cp, .slice asn ns cs] 28)) B hn (by simp; omega) (hl0.below (hbw.mono hB)) hex hsz (hc0.below (hbw.mono hB)))
  have HBW := Lib.hid hbw
  have HP := Lib.hid hp
  have HSZ := Lib.hid hsz
  have HAZ := Lib.hid (fun h => askE_zero (d := d) (ps := ps) (c := c) h)
  clear hl0 hd hp hc hc0 hbw K0 hex hsz
  by_cases hz : askE d ps c = 0
  · rw [if_pos hz]
    have HZ := Lib.hid (HAZ.out hz)
    rw [hz] at HASK ⊢
    clear HAZ hz
    obtain ⟨i0, hi0, hx0, hx1, hx2⟩ := info_parts strInfo
    go_enter Tryz.func12, Tryz.ntmps12
    go_wp2_with (go_at_call 28; refine HASK.out.mono ?_; rintro e w1 ⟨q, rfl, hb1, hq⟩; obtain ⟨ab, nb, bb, mk, mb, ad', cd', ap', cp', ac', cc', rfl, hE, hmk, hK, _⟩ := hq rfl; have HB1 := Lib.hid hb1; have HE := Lib.hid hE; have HK := Lib.hid (hK (apA d ps c (rowsOf ps))); have y1 := (hb1.cell (p := ⟨w.heap.size, 1, none⟩) (by simp)).trans x1; have s1 := hE.mlt; have s2 := hE.alt; simp only [World.size_alloc] at hmk; clear hb1 hq hE hK)
    go_loopw [8, 23] (fun vo iv wr => ∃ k : Nat, k ≤ ps.length ∧ iv = .int .i64 k ∧ Hid (wr.ownsRow w1.heap.size 9 1 vo ((List.range k).filter (apA d ps c (rowsOf ps))).length (((List.range k).filter (apA d ps c (rowsOf ps))).map fun j => .string (idAt ps j))) ∧ Hid (Kn w1 mk ab (apA d ps c (rowsOf ps)) wr)) (fun _ iv _ => ps.length - (intOf iv).toNat)
    case atStart => exact ⟨0, Nat.zero_le _, rfl, ⟨rfl, .inl ⟨rfl, rfl⟩⟩, HK⟩
    case round =>
      obtain ⟨k, hk, rfl, hown, hkn⟩ := hrel
      by_cases hlt : k < ps.length
      · have b0 : Below w.heap.size w wr := (HBW.out.trans (HB1.out.mono (by simp))).trans (hkn.out.bel.mono (by omega))
        have hs1 := hkn.out.bel.size
        have hid := idAt_eq hlt
        have hfs := filter_range_succ (apA d ps c (rowsOf ps)) k
        have hfl : ((List.range k).filter (apA d ps c (rowsOf ps))).length ≤ 1000 := by
          have := List.length_filter_le (apA d ps c (rowsOf ps)) (List.range k)
          rw [List.length_range] at this; omega
        have HAP := Lib.hid (fun W h => applies_any W B ab nb bb mk d ps c (rowsOf ps) ad' cd' ap' cp' ac' cc' (HE.out.move h) HSZ.out HZ.out.2.2.2 k W hlt h.base)
        obtain ⟨b, off, rfl, hbB, ak, ck, ae, ce, hr, hf, he, hzz⟩ := SlIn.at (HP.out.below PvR.kept (b0.mono hB)) k hlt
        generalize ps[k] = p at *
        have HRG := Lib.hid hr
        have HB0 := Lib.hid b0
        have HID := Lib.hid hid
        have HFS := Lib.hid hfs
        have HO := hown
        clear hr hf he hzz b0 hid hfs hown
        cases hap : apA d ps c (rowsOf ps) k with
        | false =>
          rw [hap] at HAP HFS
          have HF : Hid ((List.range (k + 1)).filter (apA d ps c (rowsOf ps)) = (List.range k).filter (apA d ps c (rowsOf ps))) := by show _ = _; rw [HFS.out]; simp
          clear HFS
          go_wp2_with (first
            | ((with_reducible show wpList _ _ _ (⟨_, Op.load 49 (.tmp 26), _, _, _, _⟩ :: _) _ _); refine wpList_load_pv rfl (.tmp 26) rfl rfl p ak ck ae ce HRG.out Tryz.underlying49 rfl Pv.info ?_)
            | ((with_reducible show wpList _ _ _ (⟨_, Op.store 49 (.tmp 10) (.tmp 27), _, _, _, _⟩ :: _) _ _); refine wpList_store_pv rfl (.tmp 10) (.tmp 27) rfl p ak ck ae ce rfl rfl ?hs1 Pv.info ?_; (case hs1 => rfl); intro W1 hb1 hz1 hr1 hf1; have e1_0 := hr1 0 _ rfl; have HR1 := Lib.hid hr1; clear hr1)
            | (go_at_call 29; refine (HAP.out _ (hkn.out.below s1 s2 hb1)).mono ?_; rintro e w2 ⟨rfl, hk2⟩; have HO2 := Lib.hid (row_kn HO.out hb1 hk2 (by omega)); have HK2 := Lib.hid ((hkn.out.below s1 s2 hb1).trans hk2); clear hk2))
          clear hb1 hf1 HR1 e1_0
          go_roundw
          case rel => exact ⟨k + 1, by omega, by go_num, by rw [HF.out]; exact HO2, HK2⟩
          case measure => simp [intOf]; omega
        | true =>
          rw [hap] at HAP HFS
          have HF : Hid ((List.range (k + 1)).filter (apA d ps c (rowsOf ps)) = (List.range k).filter (apA d ps c (rowsOf ps)) ++ [k]) := by show _ = _; rw [HFS.out]; simp
          clear HFS
          generalize hfe : (List.range k).filter (apA d ps c (rowsOf ps)) = fl at *
          go_wp2_with (first
            | ((with_reducible show wpList _ _ _ (⟨_, Op.load 49 (.tmp 26), _, _, _, _⟩ :: _) _ _); refine wpList_load_pv rfl (.tmp 26) rfl rfl p ak ck ae ce HRG.out Tryz.underlying49 rfl Pv.info ?_)
            | ((with_reducible show wpList _ _ _ (⟨_, Op.store 49 (.tmp 10) (.tmp 27), _, _, _, _⟩ :: _) _ _); refine wpList_store_pv rfl (.tmp 10) (.tmp 27) rfl p ak ck ae ce rfl rfl ?hs1 Pv.info ?_; (case hs1 => rfl); intro W1 hb1 hz1 hr1 hf1; have e1_0 := hr1 0 _ rfl; have HR1 := Lib.hid hr1; clear hr1)
            | (go_at_call 29; refine (HAP.out _ (hkn.out.below s1 s2 hb1)).mono ?_; rintro e w2 ⟨rfl, hk2⟩; have HO2 := Lib.hid (row_kn HO.out hb1 hk2 (by omega)); have HK2 := Lib.hid ((hkn.out.below s1 s2 hb1).trans hk2); have z0 := (World.cell?_of_block (w := W1) (a := ⟨wr.heap.size, 0, none⟩) (hk2.gr.block wr.heap.size (by omega) (by simp; omega))).trans e1_0; have hz2s := hk2.gr.size; clear hk2)
            | (at_builtin; go_loud (refine wpList_append_own_at _ rfl _ _ 32 rfl w1.heap.size 9 i0 _ 1 16 Tryz.underlying32 hi0 hx0 hx1 hx2 rfl (by decide) _ fl.length _ rfl (HO2.out.alloc _) ⟨w2.heap.size, 0, none⟩ 1 1 [.string p.id] rfl rfl (cell_one_new _ _ _) (by simp [Value.oneCell']) (by unfold maxLen; omega) (by omega) (by simp; omega) ?_; intro v9 w9 hown9 hgrow9 hnil9 hat9; have HK9 := Lib.hid ((HK2.out.below s1 s2 ((Below.refl _ _).alloc (Nat.le_refl _) (.cells #[.string p.id] 9))).grown s1 s2 hgrow9 (own_ge HO2.out)); have HO9 := Lib.hid hown9; clear hown9 hgrow9 hnil9 hat9)))
          clear hb1 hf1 HR1 e1_0 z0
          go_roundw
          case rel =>
            refine ⟨k + 1, by omega, by go_num, ?_, HK9⟩
            show World.ownsRow _ _ _ _ _ _ _
            rw [HF.out, List.length_append, List.map_append, List.map_cons, List.map_nil, HID.out]
            exact HO9.out
          case measure => simp [intOf]; omega
      · have hkn2 : k = ps.length := by omega
        subst hkn2
        have HO := hown
        clear hown hk hlt
        go_wp2
        go_ret2
        refine ⟨_, rfl, (HBW.out.trans (HB1.out.mono (by simp))).trans (hkn.out.bel.mono (by omega)), ?_⟩
        refine own_strs (base := w1.heap.size) ?_ (Nat.le_refl _)
        unfold appliedL
        rw [List.length_map, List.map_map]
        exact HO.out
  · rw [if_neg hz]
    have e0 : (askE d ps c != 0) = true := by simpa using hz
    generalize askE d ps c = er at *
    clear HAZ hz
    go_enter Tryz.func12, Tryz.ntmps12
    go_wp2_with (go_at_call 28; refine HASK.out.mono ?_; rintro e w1 ⟨q, rfl, hb1, _⟩; have HB1 := Lib.hid hb1; clear hb1)
    go_ret2
    exact ⟨.slice none 0 0, rfl, HBW.out.trans (HB1.out.mono (by simp)), none, 0, rfl, Nat.le_refl _, Nat.zero_le _, fun h => absurd rfl h⟩
end

end Go.Proofs.YtihpoecdnchioaaGreatDoor
