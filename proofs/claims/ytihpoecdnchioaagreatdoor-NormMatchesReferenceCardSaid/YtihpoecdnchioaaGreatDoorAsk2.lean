/- The walk of norm.ask. A bound on the number of provisions and on the conditions' sizes. -/
import Derived.Test.YtihpoecdnchioaaGreatDoorAsk
import Derived.Test.YtihpoecdnchioaaGreatDoorGroups
import Derived.Test.YtihpoecdnchioaaGreatDoorApEnv
namespace Go.Proofs.YtihpoecdnchioaaGreatDoor
open Go.RowKit Tj

def rowsOf (ps : List Pv) : List (List Nat) := byK (atK (ps.map Pv.id) ps.length) (ps.map Pv.except) ps.length
def okP (ps : List Pv) : Bool := decide ((atK (ps.map Pv.id) ps.length).length = ps.length)
def askE (d : List Fa) (ps : List Pv) (c : List Int) : Int := if okP ps = true ∧ fitsD d c = true ∧ ps.any (badF d) = false then (if circS (eB (edg (rowsOf ps))) ps.length = [] then 0 else 13) else 1

theorem okP_iff (ps : List Pv) : okP ps = true ↔ (ps.map Pv.id).Nodup := by
  have h := (atK_len (ps.map Pv.id) ps.length (by simp)).2
  unfold okP
  rw [decide_eq_true_iff, h]
  rw [List.take_of_length_le (by simp)]
theorem rowsOf_len (ps : List Pv) : (rowsOf ps).length = ps.length := by unfold rowsOf; rw [byK_len, List.length_map]
theorem rowsOf_get {ps : List Pv} (hn : (ps.map Pv.id).Nodup) (k : Nat) (hk : k < ps.length) : (rowsOf ps).getD k [] = (List.range ps.length).filter fun j => inB ((ps.map Pv.except).getD j []) ps[k].id := by
  have h := byK_get hn (ps.map Pv.except) (by simp) k (by simpa using hk) ps.length (by simp)
  rw [show (ps.map Pv.id)[k]'(by simpa using hk) = ps[k].id from List.getElem_map _] at h
  have h2 : (ps.map Pv.id).length = ps.length := List.length_map _
  unfold rowsOf
  rw [← h]
  simp only [h2]
theorem rowsOf_lt {ps : List Pv} (hn : (ps.map Pv.id).Nodup) (k : Nat) : ∀ x ∈ (rowsOf ps).getD k [], x < ps.length := by
  intro x hx
  rcases Nat.lt_or_ge k ps.length with hk | hk
  · rw [rowsOf_get hn k hk] at hx
    exact List.mem_range.1 (List.mem_filter.1 hx).1
  · rw [List.getD_eq_getElem?_getD, List.getElem?_eq_none (by rw [rowsOf_len]; exact hk)] at hx
    cases hx

theorem net_row {W : World} {B nb : Nat} {u1 u2 u3 : Value} {ids : List ByteArray} {rows : List (List Nat)} (h : NetIs W B nb u1 u2 u3 ids rows) :
    ∃ bb, bb < W.heap.size ∧ W.cell? ⟨nb, 4, none⟩ = some (.slice (some ⟨bb, 0, none⟩) rows.length rows.length) ∧ ∀ k, k < rows.length → ∃ v, W.cell? ⟨bb, k, none⟩ = some v ∧ IntsIn W W.heap.size ((rows.getD k []).map fun x : Nat => (x : Int)) v := by
  obtain ⟨mb, bb, h1, _, ⟨base, vs, hr⟩, _, _, _⟩ := h.blk
  refine ⟨bb, hr.blk.lt, h1.cell 4, fun k hk => ⟨vs.getD k undef, ?_, own_ints (hr.own k hk) (Nat.le_refl _)⟩⟩
  have := hr.blk.cell k
  rw [this]
  have hl := hr.len
  simp [List.getD_eq_getElem?_getD, List.getElem?_eq_getElem (show k < vs.length by omega)]
theorem net_netR {W W' : World} {B nb n : Nat} {u1 u3 : Value} {ap : Option Addr} {cp : Nat} {ids : List ByteArray} {rows : List (List Nat)} (h : NetIs W B nb u1 (.slice ap n cp) u3 ids rows) (hn : rows.length = n) (hb : Below W.heap.size W W') : NetR W' nb n rows := by
  obtain ⟨bb, h1, h2, h3⟩ := net_row h
  obtain ⟨mb, bb', h4, _⟩ := h.blk
  have hs := hb.size
  have hl := h4.lt
  refine ⟨⟨ap, cp, (hb.cell (p := ⟨nb, 1, none⟩) hl).trans (h4.cell 1)⟩, hn, by omega, bb, by omega, ?_, fun k hk => ?_⟩
  · rw [hb.cell (p := ⟨nb, 4, none⟩) hl, h2, hn]
  · obtain ⟨v, h5, h6⟩ := h3 k (by omega)
    exact ⟨v, (hb.cell (p := ⟨bb, k, none⟩) h1).trans h5, (h6.below hb).mono (OneR.mono _) hs⟩

section
attribute [local go_sem] run_store_fn
set_option maxRecDepth 100000 in
set_option maxHeartbeats 8000000 in
theorem ask_any (d : List Fa) (ps : List Pv) (c : List Int) (v cv : Value) (w : World) (B : Nat) (hn : ps.length ≤ 1000) (hB : B ≤ w.heap.size) (hl : LawIn w B d ps v) (hex : ∀ p ∈ ps, p.except.length ≤ 40) (hsz : ∀ p ∈ ps, p.cond.size ≤ 1000000) (hc : IntsIn w B c cv) :
    Calls Tryz.prog 28 #[v, cv] w fun e w' => ∃ p, e = .returned (.tuple #[.pointer p, .int .i64 (askE d ps c)]) ∧ Below w.heap.size w w' ∧
      (askE d ps c = 0 → ∃ ab nb bb mk mb ad cd ap cp ac cc, p = some ⟨ab, 0, none⟩ ∧ AEnv w' B ab nb bb mk d ps c (rowsOf ps) ad cd ap cp ac cc ∧ w.heap.size ≤ mk ∧ (∀ apf, Kn w' mk ab apf w') ∧ mb < mk ∧ w'.cell? ⟨nb, 3, none⟩ = some (.map (some mb)) ∧ MapIs Value.string (Value.int .i64) w' mb (atK (ps.map Pv.id) ps.length)) := by
  have hl0 := hl
  obtain ⟨u1, u2, asn, ns, cs, rfl, hd, hp⟩ := hl
  have hd0 := hd
  have hp0 := hp
  obtain ⟨ad, cd, rfl, d1, d2, _⟩ := SlIn.shape hd
  obtain ⟨ap, cp, rfl, p1, p2, _⟩ := SlIn.shape hp
  have hc0 := hc
  obtain ⟨ac, cc, rfl, c1, c2, _⟩ := SlIn.shape hc
  have hbw : Below w.heap.size w (w.alloc (.cells #[.slice ad d.length cd, .slice ap ps.length cp, .slice asn ns cs] 28)) := (Below.refl _ _).alloc (Nat.le_refl _) _
  have K0 := Blk.new w 28 #[.slice ad d.length cd, .slice ap ps.length cp, .slice asn ns cs]
  have x0 : (w.alloc (.cells #[.slice ad d.length cd, .slice ap ps.length cp, .slice asn ns cs] 28)).cell? ⟨w.heap.size, 0, none⟩ = some (.slice ad d.length cd) := K0.cell 0
  have x1 : (w.alloc (.cells #[.slice ad d.length cd, .slice ap ps.length cp, .slice asn ns cs] 28)).cell? ⟨w.heap.size, 1, none⟩ = some (.slice ap ps.length cp) := K0.cell 1
  have x2 : (w.alloc (.cells #[.slice ad d.length cd, .slice ap ps.length cp, .slice asn ns cs] 28)).cell? ⟨w.heap.size, 2, none⟩ = some (.slice asn ns cs) := K0.cell 2
  have HOF := Lib.hid (of_any d ps _ (w.alloc (.cells #[.slice ad d.length cd, .slice ap ps.length cp, .slice asn ns cs] 28)) B hn (by simp; omega) (hl0.below (hbw.mono hB)) hex)
  have HBW := Lib.hid hbw
  have hbB : ∀ W, Below (w.alloc (.cells #[.slice ad d.length cd, .slice ap ps.length cp, .slice asn ns cs] 28)).heap.size (w.alloc (.cells #[.slice ad d.length cd, .slice ap ps.length cp, .slice asn ns cs] 28)) W → Below B w W := fun W h => (hbw.mono hB).trans (h.mono (by simp; omega))
  have HFI : Hid (∀ W, Below (w.alloc (.cells #[.slice ad d.length cd, .slice ap ps.length cp, .slice asn ns cs] 28)).heap.size (w.alloc (.cells #[.slice ad d.length cd, .slice ap ps.length cp, .slice asn ns cs] 28)) W → Calls Tryz.prog 26 #[.agg #[.slice ad d.length cd], .slice ac c.length cc] W fun e w' => e = .returned (.bool (fitsD d c)) ∧ Below W.heap.size W w') := by
    intro W h
    have hs := h.size
    simp only [World.size_alloc] at hs
    exact fits_any d c _ _ W B (by omega) (DomIn.below (hbB W h) ⟨_, rfl, hd0⟩) (hc0.below (hbB W h))
  have HCO : Hid (∀ W, Below (w.alloc (.cells #[.slice ad d.length cd, .slice ap ps.length cp, .slice asn ns cs] 28)).heap.size (w.alloc (.cells #[.slice ad d.length cd, .slice ap ps.length cp, .slice asn ns cs] 28)) W → Calls Tryz.prog 47 #[.slice ap ps.length cp, .func (.func 45) #[] #[.pointer (some ⟨w.heap.size, 0, none⟩)]] W fun e w' => e = .returned (.bool (ps.any (badF d))) ∧ Below W.heap.size W w') := by
    intro W h
    have hs := h.size
    simp only [World.size_alloc] at hs
    refine contFuncPv_any ps 45 #[.pointer (some ⟨w.heap.size, 0, none⟩)] (badF d) (fun W' => Below W.heap.size W W') B ap cp W (enters_of Tryz.func45 (by kernel_rfl) rfl) p2 p1
      (fun W' h' => hp0.below PvR.kept ((hbB W h).trans (h'.mono (by omega)))) ?_ (Below.refl _ _)
    rintro W' x u hx h' ⟨ak, ck, ae, ce, rfl, hf⟩
    have hs' := h'.size
    have hbb : Below (w.alloc (.cells #[.slice ad d.length cd, .slice ap ps.length cp, .slice asn ns cs] 28)).heap.size (w.alloc (.cells #[.slice ad d.length cd, .slice ap ps.length cp, .slice asn ns cs] 28)) W' := h.trans (h'.mono (by simp; omega))
    refine (askC_any d x ak ck ae ce w.heap.size ad cd B W' (hsz x hx) (by omega) (by omega) ((hbb.cell (p := ⟨w.heap.size, 0, none⟩) (by simp)).trans x0) (DomIn.below (hbB W' hbb) ⟨_, rfl, hd0⟩) hf).mono ?_
    rintro e w' ⟨he, hb⟩
    exact ⟨he, h'.trans (hb.mono hs')⟩
  have hmm := @run_makeMap Tryz.prog
  have hnn : decide ((2000 : Int) < (ps.length : Int)) = false := by simp; omega
  have HD0 := Lib.hid hd0
  have HP0 := Lib.hid hp0
  have HC0 := Lib.hid hc0
  have HR : Hid (askE d ps c = if okP ps = true ∧ fitsD d c = true ∧ ps.any (badF d) = false then (if circS (eB (edg (rowsOf ps))) ps.length = [] then 0 else 13) else 1) := rfl
  have hOK : decide ((atK (ps.map Pv.id) ps.length).length = ps.length) = okP ps := rfl
  have HLT := Lib.hid (fun h : okP ps = true => rowsOf_lt ((okP_iff ps).1 h))
  have HBB := Lib.hid hbB
  generalize askE d ps c = R at *
  generalize hok : okP ps = okk at *
  have HOK := Lib.hid hOK
  clear hl0 hd hp hd0 hp0 hc hc0 hbw K0 hbB hok hOK hsz hex
  cases okk with
  | false =>
    have HS := Lib.hid (show (1 : Int) = R by rw [HR.out]; simp)
    go_enter Tryz.func28, Tryz.ntmps28
    go_wp2_with (go_at_call 32; refine HOF.out.mono ?_; rintro e w1 ⟨nb, u1, u2, u3, ok, hv, rfl, hok, hnet, hb1⟩; injection hv with hv; injection hv with hv; injection hv with v1 hv; injection hv with v2 hv; injection hv with v3 hv; subst v1; subst v2; subst v3; clear hv; have HNET := Lib.hid hnet; have HB1 := Lib.hid (HBW.out.trans (hb1.mono (by simp))); have HBX := Lib.hid hb1; have y0 := (hb1.cell (p := ⟨w.heap.size, 0, none⟩) (by simp)).trans x0; have y1 := (hb1.cell (p := ⟨w.heap.size, 1, none⟩) (by simp)).trans x1; have hz1 := hb1.size; simp only [World.size_alloc] at hz1; rw [HOK.out] at hok; subst hok; clear hnet hb1)
    go_ret2
    exact ⟨none, by rw [HS.out]; rfl, HB1.out, fun h => by have := HS.out; omega⟩
  | true =>
    generalize hff : fitsD d c = ff at *
    cases ff with
    | false =>
      have HS := Lib.hid (show (1 : Int) = R by rw [HR.out]; simp)
      clear HCO
      go_enter Tryz.func28, Tryz.ntmps28
      go_wp2_with (first
        | (go_at_call 32; refine HOF.out.mono ?_; rintro e w1 ⟨nb, u1, u2, u3, ok, hv, rfl, hok, hnet, hb1⟩; injection hv with hv; injection hv with hv; injection hv with v1 hv; injection hv with v2 hv; injection hv with v3 hv; subst v1; subst v2; subst v3; clear hv; have HNET := Lib.hid hnet; have HB1 := Lib.hid (HBW.out.trans (hb1.mono (by simp))); have HBX := Lib.hid hb1; have y0 := (hb1.cell (p := ⟨w.heap.size, 0, none⟩) (by simp)).trans x0; have y1 := (hb1.cell (p := ⟨w.heap.size, 1, none⟩) (by simp)).trans x1; have hz1 := hb1.size; simp only [World.size_alloc] at hz1; rw [HOK.out] at hok; subst hok; clear hnet hb1)
        | (go_at_call 26; refine (HFI.out _ HBX.out).mono ?_; rintro e w2 ⟨rfl, hb2⟩; have z0 := (hb2.cell (p := ⟨w.heap.size, 0, none⟩) (by simp; omega)).trans y0; have z1 := (hb2.cell (p := ⟨w.heap.size, 1, none⟩) (by simp; omega)).trans y1; have HB2 := Lib.hid hb2; have hz2 := hb2.size; clear hb2))
      go_ret2
      exact ⟨none, by rw [HS.out]; rfl, HB1.out.trans (HB2.out.mono (by omega)), fun h => by have := HS.out; omega⟩
    | true =>
      generalize hbd : ps.any (badF d) = bd at *
      cases bd with
      | true =>
        have HS := Lib.hid (show (1 : Int) = R by rw [HR.out]; simp)
        go_enter Tryz.func28, Tryz.ntmps28
        go_wp2_with (first
          | (go_at_call 32; refine HOF.out.mono ?_; rintro e w1 ⟨nb, u1, u2, u3, ok, hv, rfl, hok, hnet, hb1⟩; injection hv with hv; injection hv with hv; injection hv with v1 hv; injection hv with v2 hv; injection hv with v3 hv; subst v1; subst v2; subst v3; clear hv; have HNET := Lib.hid hnet; have HB1 := Lib.hid (HBW.out.trans (hb1.mono (by simp))); have HBX := Lib.hid hb1; have y0 := (hb1.cell (p := ⟨w.heap.size, 0, none⟩) (by simp)).trans x0; have y1 := (hb1.cell (p := ⟨w.heap.size, 1, none⟩) (by simp)).trans x1; have hz1 := hb1.size; simp only [World.size_alloc] at hz1; rw [HOK.out] at hok; subst hok; clear hnet hb1)
          | (go_at_call 26; refine (HFI.out _ HBX.out).mono ?_; rintro e w2 ⟨rfl, hb2⟩; have z0 := (hb2.cell (p := ⟨w.heap.size, 0, none⟩) (by simp; omega)).trans y0; have z1 := (hb2.cell (p := ⟨w.heap.size, 1, none⟩) (by simp; omega)).trans y1; have HB2 := Lib.hid hb2; have hz2 := hb2.size; clear hb2)
          | (go_at_call 47; refine (HCO.out _ (HBX.out.trans (HB2.out.mono (by simp; omega)))).mono ?_; rintro e w3 ⟨rfl, hb3⟩; have HB3 := Lib.hid hb3; clear hb3))
        go_ret2
        exact ⟨none, by rw [HS.out]; rfl, (HB1.out.trans (HB2.out.mono (by omega))).trans (HB3.out.mono (by omega)), fun h => by have := HS.out; omega⟩
      | false =>
        have HGR : Hid (∀ (nb : Nat) W, NetR W nb ps.length (rowsOf ps) → Calls Tryz.prog 33 #[.pointer (some ⟨nb, 0, none⟩)] W fun e w' => ∃ v, e = .returned v ∧ IntssIn w' w'.heap.size ((circS (eB (edg (rowsOf ps))) ps.length).map fun l => l.map fun x : Nat => (x : Int)) v ∧ Below W.heap.size W w') :=
          fun nb W h => groups_any ps.length nb (rowsOf ps) W hn (HLT.out (by trivial)) h
        have HR2 : Hid (R = if circS (eB (edg (rowsOf ps))) ps.length = [] then 0 else 13) := by show _ = _; rw [HR.out]; simp
        clear HR
        generalize circS (eB (edg (rowsOf ps))) ps.length = cr at *
        by_cases hcr : cr = []
        · have e0 : decide (0 < cr.length) = false := by rw [hcr]; rfl
          have HS := Lib.hid (show (0 : Int) = R by rw [HR2.out, if_pos hcr])
          clear hcr HR2
          go_enter Tryz.func28, Tryz.ntmps28
          go_wp2_with (first
            | (go_at_call 32; refine HOF.out.mono ?_; rintro e w1 ⟨nb, u1, u2, u3, ok, hv, rfl, hok, hnet, hb1⟩; injection hv with hv; injection hv with hv; injection hv with v1 hv; injection hv with v2 hv; injection hv with v3 hv; subst v1; subst v2; subst v3; clear hv; have HNET := Lib.hid hnet; have HB1 := Lib.hid (HBW.out.trans (hb1.mono (by simp))); have HBX := Lib.hid hb1; have y0 := (hb1.cell (p := ⟨w.heap.size, 0, none⟩) (by simp)).trans x0; have y1 := (hb1.cell (p := ⟨w.heap.size, 1, none⟩) (by simp)).trans x1; have hz1 := hb1.size; simp only [World.size_alloc] at hz1; rw [HOK.out] at hok; subst hok; clear hnet hb1)
            | (go_at_call 26; refine (HFI.out _ HBX.out).mono ?_; rintro e w2 ⟨rfl, hb2⟩; have z0 := (hb2.cell (p := ⟨w.heap.size, 0, none⟩) (by simp; omega)).trans y0; have z1 := (hb2.cell (p := ⟨w.heap.size, 1, none⟩) (by simp; omega)).trans y1; have HB2 := Lib.hid hb2; have hz2 := hb2.size; clear hb2)
            | (go_at_call 47; refine (HCO.out _ (HBX.out.trans (HB2.out.mono (by simp; omega)))).mono ?_; rintro e w3 ⟨rfl, hb3⟩; have HB3 := Lib.hid hb3; clear hb3)
            | (go_at_call 33; (refine (HGR.out _ _ (net_netR HNET.out (rowsOf_len ps) ((HB2.out.mono (by omega)).trans (HB3.out.mono (by omega))))).mono ?_; rintro e w4 ⟨gv, rfl, hgv, hb4⟩; obtain ⟨ga, gc, rfl, g1, g2, _⟩ := SlIn.shape hgv; rw [List.length_map]; have HB4 := Lib.hid hb4; clear hb4 hgv)))
          go_ret2
          have hz3 := HB3.out.size
          have hz4 := HB4.out.size
          have hW : Below w4.heap.size w4 ((w4.alloc (.map #[] 0)).alloc (.cells #[.pointer (some ⟨nb, 0, none⟩), .slice ac c.length cc, .map (some w4.heap.size)] 73)) := ((Below.refl _ _).alloc (Nat.le_refl _) _).alloc (by simp) _
          have h14 : Below w1.heap.size w1 w4 := ((HB2.out.mono (Nat.le_refl _)).trans (HB3.out.mono hz2)).trans (HB4.out.mono (by omega))
          have h15 : Below w1.heap.size w1 ((w4.alloc (.map #[] 0)).alloc (.cells #[.pointer (some ⟨nb, 0, none⟩), .slice ac c.length cc, .map (some w4.heap.size)] 73)) := h14.trans (hW.mono (by omega))
          have hw5 : Below w.heap.size w ((w4.alloc (.map #[] 0)).alloc (.cells #[.pointer (some ⟨nb, 0, none⟩), .slice ac c.length cc, .map (some w4.heap.size)] 73)) := HB1.out.trans (h15.mono (by omega))
          have hB5 := hw5.mono hB
          have HN := HNET.out
          obtain ⟨mb, bb0, hblk, hmp, ⟨base, vs, hrw⟩, _, _, _⟩ := HN.blk
          obtain ⟨bb, r1, r2, r3⟩ := net_row HN
          have hnl := hblk.lt
          have hml := hmp.lt
          have hrl : (byK (atK (ps.map Pv.id) ps.length) (ps.map Pv.except) ps.length).length = ps.length := rowsOf_len ps
          rw [hrl] at r2 r3
          have K1 : Blk ((w4.alloc (.map #[] 0)).alloc (.cells #[.pointer (some ⟨nb, 0, none⟩), .slice ac c.length cc, .map (some w4.heap.size)] 73)) (w4.heap.size + 1) 73 #[.pointer (some ⟨nb, 0, none⟩), .slice ac c.length cc, .map (some w4.heap.size)] := by have h := Blk.new (w4.alloc (.map #[] 0)) 73 #[.pointer (some ⟨nb, 0, none⟩), .slice ac c.length cc, .map (some w4.heap.size)]; simp only [World.size_alloc] at h; exact h
          refine ⟨some ⟨w4.heap.size + 1, 0, none⟩, by rw [← HS.out]; rfl, hw5, fun _ => ⟨w4.heap.size + 1, nb, bb, w4.heap.size, mb, ad, cd, ap, cp, ac, cc, rfl, ⟨by omega, by omega, by simp, by omega, by omega, ?_, ?_, ?_, ?_, ?_, ?_, fun k hk => ?_, ?_, ?_, ?_, HLT.out (by trivial)⟩, by omega, fun apf => ⟨⟨rfl, rfl, rfl, Nat.le_refl _, fun _ _ _ => rfl⟩, Below.refl _ _, rfl, [], ?_, fun k b h => by cases h⟩, by omega, ?_, ?_⟩⟩
          · exact K1.cell 0
          · exact K1.cell 1
          · exact K1.cell 2
          · exact (h15.cell (p := ⟨nb, 0, none⟩) hnl).trans (hblk.cell 0)
          · exact (h15.cell (p := ⟨nb, 1, none⟩) hnl).trans (hblk.cell 1)
          · exact (h15.cell (p := ⟨nb, 4, none⟩) hnl).trans r2
          · obtain ⟨v, q1, q2⟩ := r3 k hk
            exact ⟨v, (h15.cell (p := ⟨bb, k, none⟩) r1).trans q1, (q2.below h15).mono (OneR.mono _) (by omega)⟩
          · exact DomIn.below hB5 ⟨_, rfl, HD0.out⟩
          · exact HP0.out.below PvR.kept hB5
          · exact HC0.out.below hB5
          · exact (MapIs.made (ek := Value.int .i64) (ev := Value.bool) w4).alloc _
          · exact (h15.cell (p := ⟨nb, 3, none⟩) hnl).trans (hblk.cell 3)
          · have h := hmp.of_block (h15.block mb hml)
            rw [show (ps.map Pv.id).length = ps.length from List.length_map _] at h
            exact h
        · have e0 : decide (0 < cr.length) = true := by have := List.length_pos_iff.2 hcr; simpa using this
          have HS := Lib.hid (show (13 : Int) = R by rw [HR2.out, if_neg hcr])
          clear hcr HR2
          go_enter Tryz.func28, Tryz.ntmps28
          go_wp2_with (first
            | (go_at_call 32; refine HOF.out.mono ?_; rintro e w1 ⟨nb, u1, u2, u3, ok, hv, rfl, hok, hnet, hb1⟩; injection hv with hv; injection hv with hv; injection hv with v1 hv; injection hv with v2 hv; injection hv with v3 hv; subst v1; subst v2; subst v3; clear hv; have HNET := Lib.hid hnet; have HB1 := Lib.hid (HBW.out.trans (hb1.mono (by simp))); have HBX := Lib.hid hb1; have y0 := (hb1.cell (p := ⟨w.heap.size, 0, none⟩) (by simp)).trans x0; have y1 := (hb1.cell (p := ⟨w.heap.size, 1, none⟩) (by simp)).trans x1; have hz1 := hb1.size; simp only [World.size_alloc] at hz1; rw [HOK.out] at hok; subst hok; clear hnet hb1)
            | (go_at_call 26; refine (HFI.out _ HBX.out).mono ?_; rintro e w2 ⟨rfl, hb2⟩; have z0 := (hb2.cell (p := ⟨w.heap.size, 0, none⟩) (by simp; omega)).trans y0; have z1 := (hb2.cell (p := ⟨w.heap.size, 1, none⟩) (by simp; omega)).trans y1; have HB2 := Lib.hid hb2; have hz2 := hb2.size; clear hb2)
            | (go_at_call 47; refine (HCO.out _ (HBX.out.trans (HB2.out.mono (by simp; omega)))).mono ?_; rintro e w3 ⟨rfl, hb3⟩; have HB3 := Lib.hid hb3; clear hb3)
            | (go_at_call 33; (refine (HGR.out _ _ (net_netR HNET.out (rowsOf_len ps) ((HB2.out.mono (by omega)).trans (HB3.out.mono (by omega))))).mono ?_; rintro e w4 ⟨gv, rfl, hgv, hb4⟩; obtain ⟨ga, gc, rfl, g1, g2, _⟩ := SlIn.shape hgv; rw [List.length_map]; have HB4 := Lib.hid hb4; clear hb4 hgv)))
          go_ret2
          exact ⟨none, by rw [HS.out]; rfl, ((HB1.out.trans (HB2.out.mono (by omega))).trans (HB3.out.mono (by omega))).trans (HB4.out.mono (by have := HB3.out.size; omega)), fun h => by have := HS.out; omega⟩
end

end Go.Proofs.YtihpoecdnchioaaGreatDoor
