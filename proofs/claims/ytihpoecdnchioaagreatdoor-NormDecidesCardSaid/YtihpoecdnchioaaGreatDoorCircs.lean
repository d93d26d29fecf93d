/- The walk of norm.Circles. A bound on the number of provisions. -/
import Derived.Test.YtihpoecdnchioaaGreatDoorApl
namespace Go.Proofs.YtihpoecdnchioaaGreatDoor
open Go.RowKit Tj

/-- the circles as lists of Ids -/
def circL (ps : List Pv) : List (List ByteArray) := if okP ps = true then (circS (eB (edg (rowsOf ps))) ps.length).map fun l => l.map (idAt ps) else []

/-- a row of rows of strings, of the call's own -/
structure RowsS (W : World) (base : Nat) (ls : List (List ByteArray)) (u : Value) (vals : List Value) : Prop where
  own : W.ownsRow base 32 1 u vals.length vals
  len : vals.length = ls.length
  rows : ∀ k, k < ls.length → W.ownsRow base 9 1 (vals.getD k undef) (ls.getD k []).length ((ls.getD k []).map Value.string)

theorem RowsS.below {W W' : World} {base : Nat} {ls : List (List ByteArray)} {u : Value} {vals : List Value} (h : RowsS W base ls u vals) (hb : Below W.heap.size W W') : RowsS W' base ls u vals := by
  have hg : W.grownBy W' none := ⟨hb.os, hb.tape, hb.output, hb.size, fun k hk _ => hb.block k hk⟩
  have hn : ∀ {e n : Nat} {v : Value} {xs : List Value}, W.ownsRow base e 1 v n xs → v.ownBlock = none ∨ v.ownBlock ≠ none := fun h => by
    rcases h.2 with ⟨rfl, _⟩ | ⟨g, cap, cur, rfl, _⟩
    · exact .inl rfl
    · right; simp [Value.ownBlock]
  exact ⟨h.own.kept hg (hn h.own), h.len, fun k hk => (h.rows k hk).kept hg (hn (h.rows k hk))⟩

theorem RowsS.push {W W1 W' : World} {base : Nat} {ls : List (List ByteArray)} {u u' v : Value} {vals : List Value} {l : List ByteArray} (h : RowsS W base ls u vals) (hv : W.ownsRow base 9 1 v l.length (l.map Value.string)) (hb : Below W.heap.size W W1)
    (hown : W'.ownsRow base 32 1 u' (vals.length + 1) (vals ++ [v])) (hg : W1.grownBy W' u.ownBlock) : RowsS W' base (ls ++ [l]) u' (vals ++ [v]) := by
  have h1 := h.below hb
  have hv1 : W1.ownsRow base 9 1 v l.length (l.map Value.string) := hv.kept (row := none) ⟨hb.os, hb.tape, hb.output, hb.size, fun k hk _ => hb.block k hk⟩ (by
    rcases hv.2 with ⟨rfl, _⟩ | ⟨g, cap, cur, rfl, _⟩
    · exact .inl rfl
    · right; simp [Value.ownBlock])
  refine ⟨by rw [List.length_append]; exact hown, by rw [List.length_append, List.length_append, h.len]; rfl, fun k hk => ?_⟩
  rw [List.length_append, List.length_singleton] at hk
  have hl := h.len
  by_cases e : k < ls.length
  · have h2 := h1.rows k e
    have e1 : (vals ++ [v]).getD k undef = vals.getD k undef := by simp [List.getD_eq_getElem?_getD, List.getElem?_append_left (show k < vals.length by omega)]
    have e2 : (ls ++ [l]).getD k [] = ls.getD k [] := by simp [List.getD_eq_getElem?_getD, List.getElem?_append_left e]
    rw [e1, e2]
    exact h2.kept hg (own_types h2 h1.own (by decide))
  · obtain rfl : k = ls.length := by omega
    have e1 : (vals ++ [v]).getD ls.length undef = v := by rw [← hl]; simp [List.getD_eq_getElem?_getD]
    have e2 : (ls ++ [l]).getD ls.length [] = l := by simp [List.getD_eq_getElem?_getD]
    rw [e1, e2]
    exact hv1.kept hg (own_types hv1 h1.own (by decide))

theorem RowsS.strss {W : World} {base : Nat} {ls : List (List ByteArray)} {u : Value} {vals : List Value} (h : RowsS W base ls u vals) : StrssIn W W.heap.size ls u := by
  have hl := h.len
  rcases h.own.2 with ⟨rfl, h0⟩ | ⟨g, cap, cur, rfl, _, hg, h1, h2, h3, h4⟩
  · have : ls = [] := List.length_eq_zero_iff.1 (by omega)
    subst this
    exact ⟨none, 0, rfl, Nat.le_refl _, Nat.zero_le _, fun e => absurd rfl e⟩
  · refine ⟨some ⟨g, 0, none⟩, cap, by rw [hl], by omega, h2, fun _ => ⟨g, 0, rfl, (Array.getElem?_eq_some_iff.1 hg).1, fun i hi => ?_⟩⟩
    have h5 : (cur.toList.take (vals.length * 1))[i]? = vals[i]? := by rw [h4]
    rw [List.getElem?_take_of_lt (by omega), List.getElem?_eq_getElem (show i < vals.length by omega)] at h5
    refine ⟨vals[i], ?_, ?_⟩
    · show W.cell? ⟨g, 0 + i * 1, none⟩ = some _
      simp only [World.cell?, hg]
      simpa using h5
    · have h6 := h.rows i hi
      rw [show vals.getD i undef = vals[i] by simp [List.getD_eq_getElem?_getD, show i < vals.length by omega], show ls.getD i [] = ls[i] by simp [List.getD_eq_getElem?_getD, hi]] at h6
      exact own_strs h6 (Nat.le_refl _)

theorem own_base {W : World} {b1 b2 e size n : Nat} {v : Value} {xs : List Value} (h : W.ownsRow b1 e size v n xs) (hb : b2 ≤ b1) : W.ownsRow b2 e size v n xs := by
  refine ⟨h.1, ?_⟩
  rcases h.2 with h0 | ⟨g, cap, cur, h1, h2, h3⟩
  · exact .inl h0
  · exact .inr ⟨g, cap, cur, h1, by omega, h3⟩

theorem circS_len (e : Nat → Nat → Bool) (n : Nat) : (circS e n).length ≤ n := by
  unfold circS
  rw [List.length_map]
  have := List.length_filter_le (firstB e n) (List.range n)
  rwa [List.length_range] at this
theorem circS_mem {e : Nat → Nat → Bool} {n : Nat} {l : List Nat} (h : l ∈ circS e n) : l.length ≤ n ∧ ∀ x ∈ l, x < n := by
  unfold circS at h
  obtain ⟨i, _, rfl⟩ := List.mem_map.1 h
  refine ⟨?_, fun x hx => List.mem_range.1 (List.mem_filter.1 hx).1⟩
  have := List.length_filter_le (mutB e n i) (List.range n)
  rwa [List.length_range] at this

theorem strsInfo : (Tryz.prog.info? 32).map (fun i => (i.zero, i.size, i.bytes)) = some (some (.slice none 0 0), 1, 24) := by kernel_rfl

section
set_option maxRecDepth 100000 in
set_option maxHeartbeats 8000000 in
theorem circ_any (d : List Fa) (ps : List Pv) (v : Value) (w : World) (B : Nat) (hn : ps.length ≤ 1000) (hB : B ≤ w.heap.size) (hl : LawIn w B d ps v) (hex : ∀ p ∈ ps, p.except.length ≤ 30) :
    Calls Tryz.prog 18 #[v] w fun e w' => ∃ u, e = .returned u ∧ Below w.heap.size w w' ∧ StrssIn w' w'.heap.size (circL ps) u := by
  have hl0 := hl
  obtain ⟨u1, u2, asn, ns, cs, rfl, hd, hp⟩ := hl
  obtain ⟨ad, cd, rfl, d1, d2, _⟩ := SlIn.shape hd
  obtain ⟨ap, cp, rfl, p1, p2, _⟩ := SlIn.shape hp
  unfold maxLen at p2
  have hbw : Below w.heap.size w (w.alloc (.cells #[.slice ad d.length cd, .slice ap ps.length cp, .slice asn ns cs] 28)) := (Below.refl _ _).alloc (Nat.le_refl _) _
  have K0 := Blk.new w 28 #[.slice ad d.length cd, .slice ap ps.length cp, .slice asn ns cs]
  have x0 : (w.alloc (.cells #[.slice ad d.length cd, .slice ap ps.length cp, .slice asn ns cs] 28)).cell? ⟨w.heap.size, 0, none⟩ = some (.slice ad d.length cd) := K0.cell 0
  have x1 : (w.alloc (.cells #[.slice ad d.length cd, .slice ap ps.length cp, .slice asn ns cs] 28)).cell? ⟨w.heap.size, 1, none⟩ = some (.slice ap ps.length cp) := K0.cell 1
  have x2 : (w.alloc (.cells #[.slice ad d.length cd, .slice ap ps.length cp, .slice asn ns cs] 28)).cell? ⟨w.heap.size, 2, none⟩ = some (.slice asn ns cs) := K0.cell 2
  have HOF := Lib.hid (of_any d ps _ (w.alloc (.cells #[.slice ad d.length cd, .slice ap ps.length cp, .slice asn ns cs] 28)) B hn (by simp; omega) (hl0.below (hbw.mono hB)) hex)
  have HBW := Lib.hid hbw
  have HP := Lib.hid hp
  have hOK : decide ((atK (ps.map Pv.id) ps.length).length = ps.length) = okP ps := rfl
  cases hok : okP ps with
  | false =>
    have hcl : circL ps = [] := by unfold circL; rw [hok]; rfl
    rw [hcl]
    rw [hok] at hOK
    have HOK := Lib.hid hOK
    clear hl0 hd hp hbw K0 hOK hok hcl hex
    go_enter Tryz.func18, Tryz.ntmps18
    go_wp2_with (go_at_call 32; refine HOF.out.mono ?_; rintro e w1 ⟨nb, u1, u2, u3, ok, hv, rfl, hok, hnet, hb1⟩; injection hv with hv; injection hv with hv; injection hv with v1 hv; injection hv with v2 hv; injection hv with v3 hv; subst v1; subst v2; subst v3; clear hv; have HNET := Lib.hid hnet; have HB1 := Lib.hid (HBW.out.trans (hb1.mono (by simp))); have HBX := Lib.hid hb1; have hz1 := hb1.size; simp only [World.size_alloc] at hz1; have y1 := (hb1.cell (p := ⟨w.heap.size, 1, none⟩) (by simp)).trans x1; rw [HOK.out] at hok; subst hok; clear hnet hb1)
    go_ret
    exact ⟨.slice none 0 0, rfl, HB1.out, none, 0, rfl, Nat.le_refl _, Nat.zero_le _, fun h => absurd rfl h⟩
  | true =>
    have hcl : circL ps = (circS (eB (edg (rowsOf ps))) ps.length).map fun l => l.map (idAt ps) := by unfold circL; rw [hok]; rfl
    rw [hcl]
    rw [hok] at hOK
    have HOK := Lib.hid hOK
    have HGR : Hid (∀ (nb : Nat) W, NetR W nb ps.length (rowsOf ps) → Calls Tryz.prog 33 #[.pointer (some ⟨nb, 0, none⟩)] W fun e w' => ∃ v, e = .returned v ∧ IntssIn w' w'.heap.size ((circS (eB (edg (rowsOf ps))) ps.length).map fun l => l.map fun x : Nat => (x : Int)) v ∧ Below W.heap.size W w') :=
      fun nb W h => groups_any ps.length nb (rowsOf ps) W hn (rowsOf_lt ((okP_iff ps).1 hok)) h
    have hcle := circS_len (eB (edg (rowsOf ps))) ps.length
    have HCM := Lib.hid (fun l (h : l ∈ circS (eB (edg (rowsOf ps))) ps.length) => circS_mem h)
    generalize circS (eB (edg (rowsOf ps))) ps.length = cr at *
    clear hl0 hd hp hbw K0 hOK hok hcl hex
    obtain ⟨i0, hi0, hx0, hx1, hx2⟩ := info_parts strInfo
    obtain ⟨i1, hi1, hw0, hw1, hw2⟩ := info_parts strsInfo
    go_enter Tryz.func18, Tryz.ntmps18
    go_wp2_with (first
      | (go_at_call 32; refine HOF.out.mono ?_; rintro e w1 ⟨nb, u1, u2, u3, ok, hv, rfl, hok, hnet, hb1⟩; injection hv with hv; injection hv with hv; injection hv with v1 hv; injection hv with v2 hv; injection hv with v3 hv; subst v1; subst v2; subst v3; clear hv; have HNET := Lib.hid hnet; have HB1 := Lib.hid (HBW.out.trans (hb1.mono (by simp))); have HBX := Lib.hid hb1; have hz1 := hb1.size; simp only [World.size_alloc] at hz1; have y1 := (hb1.cell (p := ⟨w.heap.size, 1, none⟩) (by simp)).trans x1; rw [HOK.out] at hok; subst hok; clear hnet hb1)
      | (go_at_call 33; refine (HGR.out _ _ (net_netR HNET.out (rowsOf_len ps) (Below.refl _ _))).mono ?_; rintro e w4 ⟨gv, rfl, hgv, hb4⟩; obtain ⟨ga, gc, rfl, g1, g2, _⟩ := SlIn.shape hgv; rw [List.length_map] at g1 hgv; rw [List.length_map]; have HGV := Lib.hid hgv; have HB4 := Lib.hid hb4; have hz4 := hb4.size; have y4 := (hb4.cell (p := ⟨w.heap.size, 1, none⟩) (by simp; omega)).trans y1; clear hb4 hgv))
    unfold maxLen at g2
    go_loopw [5, 21] (fun uo iv wr => ∃ (k : Nat) (vals : List Value), k ≤ cr.length ∧ iv = .int .i64 k ∧ Hid (RowsS wr w4.heap.size ((cr.take k).map fun l => l.map (idAt ps)) uo vals) ∧ Hid (Below w4.heap.size w4 wr)) (fun _ iv _ => cr.length - (intOf iv).toNat)
    case atStart => exact ⟨0, [], Nat.zero_le _, rfl, ⟨⟨rfl, .inl ⟨rfl, rfl⟩⟩, rfl, fun k hk => by cases hk⟩, Below.refl _ _⟩
    case round =>
      rename World => wq
      obtain ⟨k, vals, hk, rfl, hrow, hbr⟩ := hrel
      by_cases hlt : k < cr.length
      · obtain ⟨gb, go, ga2, gc2, rfl, hgb, hgcell, hgi⟩ := SlIn.row (SlIn.below (SlR.kept (OneR.kept _) 1) hbr.out HGV.out) k (by rw [List.length_map]; exact hlt)
        have hcm := HCM.out _ (List.getElem_mem hlt)
        have htk : cr.take (k + 1) = cr.take k ++ [cr[k]] := List.take_succ_eq_append_getElem hlt
        have hgcell2 : wq.cell? ⟨gb, go + k, none⟩ = some (.slice ga2 (cr[k]).length gc2) := by simpa using hgcell
        have hgi2 : IntsIn wq w4.heap.size ((cr[k]).map fun x : Nat => (x : Int)) (.slice ga2 (cr[k]).length gc2) := by simpa using hgi
        clear hgcell hgi
        generalize cr[k] = g at *
        obtain ⟨hcl1, hcl2⟩ := hcm
        have y5 := (hbr.out.cell (p := ⟨w.heap.size, 1, none⟩) (by simp; omega)).trans y4
        have hrs := hbr.out.size
        have hk0 : (0 : Int) ≤ (k : Int) := Int.natCast_nonneg _
        have HGI := Lib.hid hgi2
        have HCL2 := Lib.hid hcl2
        have HTK := Lib.hid htk
        have HR := hrow
        have HBR := hbr
        have hvl : vals.length = k := by have := hrow.out.len; rw [List.length_map, List.length_take] at this; omega
        have HPW := Lib.hid (HP.out.below PvR.kept (((HB1.out.trans (HB4.out.mono (by omega))).trans (hbr.out.mono (by omega))).mono hB))
        clear hgi2 hcl2 htk hrow hbr
        go_wp2
        go_loopw [8, 27] (fun io jv wr => ∃ j : Nat, j ≤ g.length ∧ jv = .int .i64 j ∧ Hid (wr.ownsRow wq.heap.size 9 1 io j (((g.take j).map (idAt ps)).map Value.string)) ∧ Hid (Below wq.heap.size wq wr)) (fun _ jv _ => g.length - (intOf jv).toNat)
        case atStart => exact ⟨0, Nat.zero_le _, rfl, ⟨rfl, .inl ⟨rfl, rfl⟩⟩, Below.refl _ _⟩
        case round =>
          obtain ⟨j, hj, rfl, hio, hbs⟩ := hrel
          by_cases hjl : j < g.length
          · obtain ⟨eb, eo, rfl, heb, hec⟩ := SlIn.one (HGI.out.below (hbs.out.mono hrs)) j (by rw [List.length_map]; exact hjl)
            rw [List.getElem_map] at hec
            have hyl := HCL2.out _ (List.getElem_mem hjl)
            have htj : g.take (j + 1) = g.take j ++ [g[j]] := List.take_succ_eq_append_getElem hjl
            generalize g[j] = y at *
            have hid := idAt_eq hyl
            obtain ⟨b, off, rfl, hbB, ak, ck, ae, ce, hr, hf, he, hzz⟩ := SlIn.at (HPW.out.below PvR.kept (hbs.out.mono (by omega))) y hyl
            generalize ps[y] = p at *
            have hr0 := hr 0 _ rfl
            rw [Nat.add_zero] at hr0
            have y6 := (hbs.out.cell (p := ⟨w.heap.size, 1, none⟩) (by simp; omega)).trans y5
            have y0i : (0 : Int) ≤ (y : Int) := Int.natCast_nonneg _
            have y1i : (y : Int) < (ps.length : Int) := by omega
            have hss := hbs.out.size
            have HIO := hio
            have HBS := hbs
            have HID := Lib.hid hid
            have HTJ := Lib.hid htj
            clear hr hf he hzz hid htj hio hbs
            go_wp2_with (at_builtin; refine wpList_append_own_at _ rfl _ _ 32 rfl wq.heap.size 9 i0 _ 1 16 Tryz.underlying32 hi0 hx0 hx1 hx2 rfl (by decide) _ j _ rfl (HIO.out.alloc _) ⟨wr.heap.size, 0, none⟩ 1 1 [.string p.id] rfl rfl (cell_one_new _ _ _) (by simp [Value.oneCell']) (by unfold maxLen; omega) (by omega) (by simp; omega) ?_; intro v9 w9 hown9 hgrow9 hnil9 hat9; have HB9 := Lib.hid ((HBS.out.trans ((Below.refl _ _).alloc (by omega) (.cells #[.string p.id] 9))).grown hgrow9 (by simp; omega) (fun b e => own_ge HIO.out b e)); have HO9 := Lib.hid hown9; clear hown9 hgrow9 hnil9 hat9)
            clear y6 hr0
            go_roundw
            case rel =>
              refine ⟨j + 1, by omega, by go_num, ?_, HB9⟩
              show World.ownsRow _ _ _ _ _ _ _
              rw [HTJ.out, List.map_append, List.map_append, List.map_cons, List.map_nil, List.map_cons, List.map_nil, HID.out]
              exact HO9.out
            case measure => simp [intOf]; omega
          · have hjn : j = g.length := by omega
            subst hjn
            have HIO : Hid (wr.ownsRow w4.heap.size 9 1 u8 (g.map (idAt ps)).length ((g.map (idAt ps)).map Value.string)) := by
              have h := hio.out
              rw [List.take_length] at h
              rw [List.length_map]
              exact own_base h hrs
            have HBS := hbs
            have HRS := Lib.hid (HR.out.below hbs.out)
            have hss := hbs.out.size
            clear hio hbs hj hjl
            obtain ⟨ua, un, uc, rfl⟩ : ∃ ua un uc, u8 = .slice ua un uc := by
              rcases HIO.out.2 with ⟨h0, _⟩ | ⟨g', cap, cur, h0, _⟩
              · exact ⟨_, _, _, h0⟩
              · exact ⟨_, _, _, h0⟩
            go_wp2_with (at_builtin; refine wpList_append_own_at _ rfl _ _ 39 rfl w4.heap.size 32 i1 _ 1 24 Tryz.underlying39 hi1 hw0 hw1 hw2 rfl (by decide) _ vals.length vals rfl (HRS.out.own.alloc _) ⟨wr.heap.size, 0, none⟩ 1 1 [.slice ua un uc] rfl rfl (cell_one_new _ _ _) (by simp [Value.oneCell']) (by unfold maxLen; omega) (by omega) (by simp; omega) ?_; intro v9 w9 hown9 hgrow9 hnil9 hat9; have HR9 := Lib.hid (RowsS.push HRS.out HIO.out ((Below.refl _ _).alloc (Nat.le_refl _) _) hown9 hgrow9); have HB9 := Lib.hid (((HBR.out.trans (HBS.out.mono (by omega))).trans ((Below.refl _ _).alloc (by omega) (.cells #[.slice ua un uc] 32))).grown hgrow9 (by simp; omega) (fun b e => own_ge HRS.out.own b e)); clear hown9 hgrow9 hnil9 hat9)
            go_roundw
            case rel => exact ⟨k + 1, vals ++ [.slice ua un uc], by omega, by go_num, by rw [HTK.out, List.map_append]; exact HR9, HB9⟩
            case measure => simp [intOf]; omega
      · have hkn : k = cr.length := by omega
        subst hkn
        have HR := hrow
        have HBR := hbr
        clear hrow hbr hk hlt
        go_wp2
        go_ret
        refine ⟨_, rfl, (HB1.out.trans (HB4.out.mono (by omega))).trans (HBR.out.mono (by omega)), ?_⟩
        have h := HR.out.strss
        rw [List.take_length] at h
        exact h
end

end Go.Proofs.YtihpoecdnchioaaGreatDoor
