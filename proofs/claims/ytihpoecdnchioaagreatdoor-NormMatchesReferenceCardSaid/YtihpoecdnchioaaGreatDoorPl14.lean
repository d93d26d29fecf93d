/- Plain halves: order, others, changes, free, circles, chains of exceptions turned round; the walk of pandectref14.Different. No conditions. -/
import Derived.Test.YtihpoecdnchioaaGreatDoorApl
import Derived.Test.YtihpoecdnchioaaGreatDoorCirc
import Derived.BigQuiet
namespace Go.Proofs.YtihpoecdnchioaaGreatDoor
open Go.RowKit Tj

variable {d : List Fa} {c : List Int}

/-- what answers the rule of the exceptions is whether they apply -/
theorem ap_unique {ps : List Pv} {rows : List (List Nat)} (hl : ∀ k, ∀ x ∈ rows.getD k [], x < ps.length) (hc : circS (eB (edg rows)) ps.length = []) (g : Nat → Bool)
    (hg : ∀ i (hi : i < ps.length), g i = (holdsF ps[i].cond d c [] && !(rows.getD i []).any g)) : ∀ i, i < ps.length → apA d ps c rows i = g i := by
  obtain ⟨rk, _, h2⟩ := rank_le (G := edg rows) hl hc
  have key : ∀ N i, rk i < N → i < ps.length → apA d ps c rows i = g i := by
    intro N
    induction N with
    | zero => intro i h; omega
    | succ N ih =>
      intro i hN hi
      rw [apA_eq hl hc i hi, hg i hi]
      congr 2
      rw [Bool.eq_iff_iff, List.any_eq_true, List.any_eq_true]
      constructor
      · rintro ⟨y, hy, ha⟩
        have := h2 i hi y hy
        exact ⟨y, hy, by rw [← ih y (by omega) (hl i y hy)]; exact ha⟩
      · rintro ⟨y, hy, ha⟩
        have := h2 i hi y hy
        exact ⟨y, hy, by rw [ih y (by omega) (hl i y hy)]; exact ha⟩
  exact fun i hi => key (rk i + 1) i (by omega) hi

theorem mem_row {ps : List Pv} (hn : (ps.map Pv.id).Nodup) {i k : Nat} (hi : i < ps.length) (hk : k < ps.length) : k ∈ (rowsOf ps).getD i [] ↔ inB ps[k].except ps[i].id = true := by
  rw [rowsOf_get hn i hi, List.mem_filter, List.mem_range]
  have e : (ps.map Pv.except).getD k [] = ps[k].except := by simp [List.getD_eq_getElem?_getD, hk]
  rw [e]
  exact ⟨fun h => h.2, fun h => ⟨hk, h⟩⟩

/-- the error of ask, by its parts -/
theorem askE_congr {ps qs : List Pv} (h1 : okP ps = okP qs) (h2 : ps.any (badF d) = qs.any (badF d)) (h3 : okP ps = true → (circS (eB (edg (rowsOf ps))) ps.length = [] ↔ circS (eB (edg (rowsOf qs))) qs.length = [])) : askE d ps c = askE d qs c := by
  unfold askE
  rw [← h1, ← h2]
  by_cases h : okP ps = true
  · have := h3 h
    split <;> simp only [this]
  · simp only [h, Bool.false_eq_true, false_and, if_false]

theorem okP_congr {ps qs : List Pv} (h : (ps.map Pv.id).Nodup ↔ (qs.map Pv.id).Nodup) : okP ps = okP qs := by
  rw [Bool.eq_iff_iff, okP_iff, okP_iff]; exact h

/-! ## the opposite order -/

theorem rev_get {ps : List Pv} {i : Nat} (hi : i < ps.length) : ps.reverse[i]'(by simpa using hi) = ps[ps.length - 1 - i]'(by omega) := by
  rw [List.getElem_reverse]

theorem rev_nodup {ps : List Pv} : (ps.map Pv.id).Nodup ↔ (ps.reverse.map Pv.id).Nodup := by
  rw [List.map_reverse]
  unfold List.Nodup
  rw [List.pairwise_reverse]
  exact ⟨fun h => h.imp fun h => Ne.symm h, fun h => h.imp fun h => Ne.symm h⟩

theorem rev_row {ps : List Pv} (hn : (ps.map Pv.id).Nodup) {i k : Nat} (hi : i < ps.length) (hk : k < ps.length) : k ∈ (rowsOf ps.reverse).getD i [] ↔ ps.length - 1 - k ∈ (rowsOf ps).getD (ps.length - 1 - i) [] := by
  rw [mem_row (rev_nodup.1 hn) (by simpa using hi) (by simpa using hk), mem_row hn (by omega) (by omega), rev_get hi, rev_get hk]

theorem rev_fw {ps : List Pv} (hn : (ps.map Pv.id).Nodup) {i k : Nat} (hi : i < ps.length) (hk : k < ps.length) :
    fw (eB (edg (rowsOf ps))) ps.length (ps.length - 1 - i) (ps.length - 1 - k) = fw (eB (edg (rowsOf ps.reverse))) ps.length i k := by
  have hG := rowsOf_lt hn
  have hG' : ∀ x, ∀ y ∈ edg (rowsOf ps.reverse) x, y < ps.length := by
    have := rowsOf_lt (rev_nodup.1 hn)
    rwa [List.length_reverse] at this
  have hx : ∀ x, ¬ x < ps.length → edg (rowsOf ps.reverse) x = [] := fun x h => by
    unfold edg
    rw [List.getD_eq_getElem?_getD, List.getElem?_eq_none (by rw [rowsOf_len, List.length_reverse]; omega)]; rfl
  rw [Bool.eq_iff_iff]
  constructor
  · intro h
    have h2 := fw_hom (G := edg (rowsOf ps)) (G' := edg (rowsOf ps.reverse)) hG hG' (fun x => ps.length - 1 - x) (fun x hx y hy => (by
      have hy' := hG x y hy
      refine (rev_row hn (by omega) (by omega)).2 ?_
      rwa [show ps.length - 1 - (ps.length - 1 - y) = y by omega, show ps.length - 1 - (ps.length - 1 - x) = x by omega])) (show ps.length - 1 - i < ps.length by omega) h
    rwa [show ps.length - 1 - (ps.length - 1 - i) = i by omega, show ps.length - 1 - (ps.length - 1 - k) = k by omega] at h2
  · intro h
    exact fw_hom (G := edg (rowsOf ps.reverse)) (G' := edg (rowsOf ps)) hG' hG (fun x => ps.length - 1 - x) (fun x hx y hy => (rev_row hn hx (hG' x y hy)).1 hy) hi h

theorem rev_circS {ps : List Pv} (hn : (ps.map Pv.id).Nodup) : (circS (eB (edg (rowsOf ps))) ps.length).length = (circS (eB (edg (rowsOf ps.reverse))) ps.length).length := by
  refine Nat.le_antisymm (circS_le (fun x => ps.length - 1 - x) (fun x hx => by omega) (fun i k hi hk => ?_)) (circS_le (fun x => ps.length - 1 - x) (fun x hx => by omega) (fun i k hi hk => rev_fw hn hi hk))
  rw [← rev_fw hn (by omega) (by omega), show ps.length - 1 - (ps.length - 1 - i) = i by omega, show ps.length - 1 - (ps.length - 1 - k) = k by omega]

theorem rev_ask (d : List Fa) (ps : List Pv) (c : List Int) : askE d ps.reverse c = askE d ps c := by
  refine (askE_congr (okP_congr rev_nodup) ?_ (fun h => ?_)).symm
  · rw [List.any_reverse]
  · have := rev_circS ((okP_iff ps).1 h)
    rw [List.length_reverse, ← List.length_eq_zero_iff, ← List.length_eq_zero_iff, this]

theorem rev_circL (ps : List Pv) : (circL ps.reverse).length = (circL ps).length := by
  unfold circL
  rw [← okP_congr (ps := ps) rev_nodup]
  cases h : okP ps with
  | false => rfl
  | true =>
    rw [if_pos rfl, if_pos rfl, List.length_map, List.length_map, List.length_reverse]
    exact (rev_circS ((okP_iff ps).1 h)).symm

theorem rev_range (n : Nat) : (List.range n).reverse = (List.range n).map fun x => n - 1 - x := by
  refine List.ext_getElem (by simp) fun i h1 h2 => ?_
  simp at h1
  rw [List.getElem_reverse, List.getElem_map, List.getElem_range, List.getElem_range, List.length_range]

theorem rev_idAt {ps : List Pv} {i : Nat} (hi : i < ps.length) : idAt ps.reverse i = idAt ps (ps.length - 1 - i) := by
  rw [idAt_eq (by simpa using hi), idAt_eq (show ps.length - 1 - i < ps.length by omega), rev_get hi]

theorem rev_ap {ps : List Pv} (h0 : askE d ps c = 0) (i : Nat) (hi : i < ps.length) : apA d ps.reverse c (rowsOf ps.reverse) i = apA d ps c (rowsOf ps) (ps.length - 1 - i) := by
  obtain ⟨hn, hl, hc⟩ := ask_parts h0
  obtain ⟨hn', hl', hc'⟩ := ask_parts (d := d) (ps := ps.reverse) (c := c) (by rw [rev_ask]; exact h0)
  refine ap_unique hl' hc' (fun i => apA d ps c (rowsOf ps) (ps.length - 1 - i)) (fun i hi => ?_) i (by simpa using hi)
  have hi' : i < ps.length := by simpa using hi
  show apA d ps c (rowsOf ps) (ps.length - 1 - i) = _
  rw [apA_eq hl hc (ps.length - 1 - i) (by omega), rev_get hi']
  congr 2
  rw [Bool.eq_iff_iff, List.any_eq_true, List.any_eq_true]
  constructor
  · rintro ⟨y, hy, ha⟩
    have hy' := hl _ y hy
    refine ⟨ps.length - 1 - y, (rev_row hn hi' (by omega)).2 ?_, ?_⟩
    · rwa [show ps.length - 1 - (ps.length - 1 - y) = y by omega]
    · rwa [show ps.length - 1 - (ps.length - 1 - y) = y by omega]
  · rintro ⟨y, hy, ha⟩
    have hy' := hl' _ y hy
    rw [List.length_reverse] at hy'
    exact ⟨ps.length - 1 - y, (rev_row hn hi' hy').1 hy, ha⟩

theorem rev_applied {ps : List Pv} (h0 : askE d ps c = 0) : appliedL d ps.reverse c = (appliedL d ps c).reverse := by
  unfold appliedL
  rw [← List.map_reverse, ← List.filter_reverse, rev_range, List.filter_map, List.map_map, List.length_reverse]
  have e : (List.range ps.length).filter (apA d ps.reverse c (rowsOf ps.reverse)) = (List.range ps.length).filter (apA d ps c (rowsOf ps) ∘ fun x => ps.length - 1 - x) :=
    List.filter_congr fun x hx => rev_ap h0 x (List.mem_range.1 hx)
  rw [e]
  exact List.map_congr_left fun x hx => rev_idAt (List.mem_range.1 (List.mem_filter.1 hx).1)

/-! ## other exceptions and conditions, the same Ids -/

theorem rows_congr {ps qs : List Pv} (hi : qs.map Pv.id = ps.map Pv.id) (hn : (ps.map Pv.id).Nodup) (he : ∀ i k, ∀ (h1 : i < ps.length) (h2 : k < ps.length) (h3 : k < qs.length), inB qs[k].except ps[i].id = inB ps[k].except ps[i].id) : rowsOf qs = rowsOf ps := by
  have hlen : qs.length = ps.length := by have := congrArg List.length hi; simpa using this
  refine List.ext_getElem (by rw [rowsOf_len, rowsOf_len, hlen]) fun i h1 h2 => ?_
  have h3 : i < ps.length := by rw [rowsOf_len] at h2; exact h2
  have e1 := rowsOf_get hn i h3
  have e2 := rowsOf_get (hi ▸ hn) i (by omega)
  rw [List.getD_eq_getElem?_getD, List.getElem?_eq_getElem h2] at e1
  rw [List.getD_eq_getElem?_getD, List.getElem?_eq_getElem h1] at e2
  simp only [Option.getD_some] at e1 e2
  rw [e1, e2, show List.range qs.length = List.range ps.length by rw [hlen]]
  refine List.filter_congr fun k hk => ?_
  have hk := List.mem_range.1 hk
  have e3 : (ps.map Pv.except).getD k [] = ps[k].except := by simp [List.getD_eq_getElem?_getD, hk]
  have e4 : (qs.map Pv.except).getD k [] = (qs[k]'(by omega)).except := by simp [List.getD_eq_getElem?_getD, hlen, hk]
  have e5 : (qs[i]'(by omega)).id = ps[i].id := by
    have : (qs.map Pv.id)[i]'(by simp; omega) = (ps.map Pv.id)[i]'(by simpa using h3) := by simp only [hi]
    simpa using this
  rw [e3, e4, e5]
  exact he i k h3 hk (by omega)

theorem law_congr {ps qs : List Pv} (hi : qs.map Pv.id = ps.map Pv.id) (hk : qs.map Pv.cond = ps.map Pv.cond) (he : ∀ i k, ∀ (h1 : i < ps.length) (h2 : k < ps.length) (h3 : k < qs.length), inB qs[k].except ps[i].id = inB ps[k].except ps[i].id) :
    askE d qs c = askE d ps c ∧ (askE d ps c = 0 → appliedL d qs c = appliedL d ps c) := by
  have hlen : qs.length = ps.length := by have := congrArg List.length hi; simpa using this
  constructor
  · refine askE_congr (okP_congr (by rw [hi])) ?_ (fun h => ?_)
    · have : ∀ l : List Pv, l.any (badF d) = (l.map Pv.cond).any fun f => decide (checkF f d (fun _ => false) ≠ 0) := fun l => by rw [List.any_map]; rfl
      rw [this, this, hk]
    · rw [rows_congr hi (hi ▸ (okP_iff qs).1 h) he, hlen]
  · intro h0
    obtain ⟨hn, _, _⟩ := ask_parts h0
    have hr := rows_congr hi hn he
    have hh : hldB d qs c = hldB d ps c := by
      funext i
      have key : ∀ l : List Pv, hldB d l c i = ((l.map Pv.cond)[i]?.map fun f => holdsF f d c []).getD false := fun l => by
        unfold hldB
        rw [List.getElem?_map]
        cases l[i]? <;> rfl
      rw [key, key, hk]
    unfold appliedL apA
    rw [hr, hh, hlen]
    refine List.map_congr_left fun x _ => ?_
    unfold idAt
    rw [hi]

/-! ## a further provision at the end that never holds -/

theorem more_row {ps : List Pv} {p : Pv} (hn : ((ps ++ [p]).map Pv.id).Nodup) {i k : Nat} (hi : i < ps.length) (hk : k < ps.length) : k ∈ (rowsOf (ps ++ [p])).getD i [] ↔ k ∈ (rowsOf ps).getD i [] := by
  have hn' : (ps.map Pv.id).Nodup := by rw [List.map_append, List.nodup_append] at hn; exact hn.1
  rw [mem_row hn (by simp; omega) (by simp; omega), mem_row hn' hi hk, List.getElem_append_left hi, List.getElem_append_left hk]

theorem more_law {ps : List Pv} {p : Pv} (hp : p.id ∉ ps.map Pv.id) (hb : badF d p = false) (hf : holdsF p.cond d c [] = false) :
    (askE d (ps ++ [p]) c = 13 ∨ askE d (ps ++ [p]) c = askE d ps c) ∧ (askE d (ps ++ [p]) c = 0 → askE d ps c = 0 → appliedL d (ps ++ [p]) c = appliedL d ps c) := by
  have hnn : ((ps ++ [p]).map Pv.id).Nodup ↔ (ps.map Pv.id).Nodup := by
    rw [List.map_append, List.nodup_append]
    refine ⟨fun h => h.1, fun h => ⟨h, by simp, fun a ha b hb e => ?_⟩⟩
    simp at hb
    subst hb; subst e
    exact hp ha
  have hok := okP_congr hnn
  have hbad : (ps ++ [p]).any (badF d) = ps.any (badF d) := by rw [List.any_append, List.any_cons, List.any_nil, hb]; simp
  constructor
  · unfold askE
    rw [hok, hbad]
    by_cases h : okP ps = true ∧ fitsD d c = true ∧ ps.any (badF d) = false
    · rw [if_pos h, if_pos h]
      by_cases h1 : circS (eB (edg (rowsOf (ps ++ [p])))) (ps ++ [p]).length = []
      · right
        rw [if_pos h1, if_pos]
        have hn' := (okP_iff ps).1 h.1
        have hn := hnn.2 hn'
        rw [circS_nil_iff] at h1 ⊢
        intro i hi
        rw [Bool.eq_false_iff]
        intro hh
        have h2 := fw_hom (G := edg (rowsOf ps)) (G' := edg (rowsOf (ps ++ [p]))) (rowsOf_lt hn') (rowsOf_lt hn) id (fun x hx y hy => (more_row hn hx (rowsOf_lt hn' x y hy)).2 hy) hi hh
        rw [show fw (eB (edg (rowsOf (ps ++ [p])))) (ps ++ [p]).length (id i) (id i) = false from h1 i (by simp; omega)] at h2
        cases h2
      · left; rw [if_neg h1]
    · right; rw [if_neg h, if_neg h]
  · intro h1 h2
    obtain ⟨hn, hl, hc⟩ := ask_parts h1
    obtain ⟨hn', hl', hc'⟩ := ask_parts h2
    have hend : apA d (ps ++ [p]) c (rowsOf (ps ++ [p])) ps.length = false := by
      rw [apA_eq hl hc ps.length (by simp)]
      have : (ps ++ [p])[ps.length]'(by simp) = p := by simp
      rw [this, hf]; rfl
    have hap : ∀ i, i < (ps ++ [p]).length → apA d (ps ++ [p]) c (rowsOf (ps ++ [p])) i = if i < ps.length then apA d ps c (rowsOf ps) i else false := by
      refine ap_unique hl hc _ (fun i hi => ?_)
      by_cases hip : i < ps.length
      · simp only [if_pos hip]
        rw [apA_eq hl' hc' i hip, List.getElem_append_left hip]
        congr 2
        rw [Bool.eq_iff_iff, List.any_eq_true, List.any_eq_true]
        constructor
        · rintro ⟨y, hy, ha⟩
          have hy' := hl' i y hy
          exact ⟨y, (more_row hn hip hy').2 hy, by rw [if_pos hy']; exact ha⟩
        · rintro ⟨y, hy, ha⟩
          by_cases hy' : y < ps.length
          · rw [if_pos hy'] at ha
            exact ⟨y, (more_row hn hip hy').1 hy, ha⟩
          · rw [if_neg hy'] at ha; cases ha
      · have : i = ps.length := by simp at hi; omega
        subst this
        simp only [if_neg hip]
        have : (ps ++ [p])[ps.length]'(by simp) = p := by simp
        rw [this, hf]; rfl
    unfold appliedL
    rw [show (ps ++ [p]).length = ps.length + 1 by simp, filter_range_succ, hend]
    simp only [Bool.false_eq_true, if_false, List.append_nil]
    have e : (List.range ps.length).filter (apA d (ps ++ [p]) c (rowsOf (ps ++ [p]))) = (List.range ps.length).filter (apA d ps c (rowsOf ps)) := List.filter_congr fun x hx => by
      have hx := List.mem_range.1 hx
      rw [hap x (by simp; omega), if_pos hx]
    rw [e]
    refine List.map_congr_left fun x hx => ?_
    have hx := List.mem_range.1 (List.mem_filter.1 hx).1
    rw [idAt_eq (show x < (ps ++ [p]).length by simp; omega), idAt_eq hx, List.getElem_append_left hx]

/-! ## without exceptions -/

def bareP (p : Pv) : Pv := { p with except := [] }

theorem bare_rows {ps : List Pv} (hn : (ps.map Pv.id).Nodup) (i : Nat) : (rowsOf (ps.map bareP)).getD i [] = [] := by
  have hids : (ps.map bareP).map Pv.id = ps.map Pv.id := by rw [List.map_map]; rfl
  by_cases hi : i < ps.length
  · rw [rowsOf_get (hids ▸ hn) i (by simpa using hi)]
    refine List.filter_eq_nil_iff.2 fun k hk => ?_
    have hk : k < ps.length := by simpa using List.mem_range.1 hk
    have : ((ps.map bareP).map Pv.except).getD k [] = [] := by simp [List.getD_eq_getElem?_getD, hk, bareP]
    rw [this]
    simp [inB]
  · rw [List.getD_eq_getElem?_getD, List.getElem?_eq_none (by rw [rowsOf_len, List.length_map]; omega)]; rfl

theorem bare_law {ps : List Pv} : (askE d (ps.map bareP) c = 0 ∨ askE d (ps.map bareP) c = 1 ∧ askE d ps c = 1) ∧ (askE d (ps.map bareP) c = 0 → fitsD d c = true ∧ appliedL d (ps.map bareP) c = (ps.filter fun p => holdsF p.cond d c []).map Pv.id) := by
  have hids : (ps.map bareP).map Pv.id = ps.map Pv.id := by rw [List.map_map]; rfl
  have hbad : (ps.map bareP).any (badF d) = ps.any (badF d) := by rw [List.any_map]; rfl
  have hok : okP (ps.map bareP) = okP ps := okP_congr (by rw [hids])
  have hcn : (ps.map Pv.id).Nodup → circS (eB (edg (rowsOf (ps.map bareP)))) (ps.map bareP).length = [] := fun hn => by
    rw [circS_nil_iff]
    intro i hi
    rw [Bool.eq_false_iff]
    intro hh
    rw [fw_rch (G := edg (rowsOf (ps.map bareP))) (rowsOf_lt (hids ▸ hn))] at hh
    obtain ⟨x, hx, _⟩ := hh
    unfold edg at hx
    rw [bare_rows hn] at hx
    cases hx
  constructor
  · unfold askE
    rw [hok, hbad]
    by_cases h : okP ps = true ∧ fitsD d c = true ∧ ps.any (badF d) = false
    · left; rw [if_pos h, if_pos (hcn ((okP_iff ps).1 h.1))]
    · right; rw [if_neg h, if_neg h]; exact ⟨rfl, rfl⟩
  · intro h0
    obtain ⟨hn, hl, hc⟩ := ask_parts h0
    refine ⟨(askE_zero h0).2.1, ?_⟩
    have hn' : (ps.map Pv.id).Nodup := hids ▸ hn
    unfold appliedL
    have e : (List.range (ps.map bareP).length).filter (apA d (ps.map bareP) c (rowsOf (ps.map bareP))) = (List.range ps.length).filter (fun i => (ps.map fun p => holdsF p.cond d c []).getD i false) := by
      rw [List.length_map]
      refine List.filter_congr fun i hi => ?_
      have hi := List.mem_range.1 hi
      rw [apA_eq hl hc i (by simpa using hi), bare_rows hn' i]
      simp [List.getD_eq_getElem?_getD, hi, bareP]
    rw [e]
    have key : ∀ k, k ≤ ps.length → ((List.range k).filter (fun i => (ps.map fun p => holdsF p.cond d c []).getD i false)).map (idAt (ps.map bareP)) = ((ps.take k).filter fun p => holdsF p.cond d c []).map Pv.id := by
      intro k
      induction k with
      | zero => intro _; rfl
      | succ k ih =>
        intro hk
        rw [filter_range_succ, List.map_append, ih (by omega), List.take_succ_eq_append_getElem (by omega), List.filter_append, List.map_append]
        congr 1
        have e1 : (ps.map fun p => holdsF p.cond d c []).getD k false = holdsF ps[k].cond d c [] := by simp [List.getD_eq_getElem?_getD, show k < ps.length by omega]
        rw [e1]
        cases hh : holdsF ps[k].cond d c [] with
        | false => simp [hh]
        | true => simp [hh, idAt_eq (show k < (ps.map bareP).length by simp; omega), bareP]
    have := key ps.length (Nat.le_refl _)
    rwa [List.take_length] at this

/-- a provision that none excepts applies just if its condition holds -/
theorem free_applies {ps : List Pv} (h0 : askE d ps c = 0) (i : Nat) (hi : i < ps.length) (hx : (ps.any fun q => inB q.except ps[i].id) = false) : inB (appliedL d ps c) ps[i].id = holdsF ps[i].cond d c [] := by
  obtain ⟨hn, hl, hc⟩ := ask_parts h0
  rw [in_applied h0 i hi, apA_eq hl hc i hi]
  have : (rowsOf ps).getD i [] = [] := by
    rw [List.eq_nil_iff_forall_not_mem]
    intro k hk
    have hk' := hl i k hk
    rw [mem_row hn hi hk'] at hk
    rw [List.any_eq_false] at hx
    exact hx _ (List.getElem_mem hk') hk
  rw [this]
  simp

/-! ## a further condition -/

theorem change_stays {ps qs : List Pv} {i : Nat} (hi : qs.map Pv.id = ps.map Pv.id) (he : qs.map Pv.except = ps.map Pv.except) (hk : ∀ k, k ≠ i → ∀ (h1 : k < ps.length) (h2 : k < qs.length), qs[k].cond = ps[k].cond)
    (h0 : askE d ps c = 0) (h0' : askE d qs c = 0) (k : Nat) (hkl : k < ps.length) (hki : k ≠ i) (hr : ∀ x, x ∈ (rowsOf ps).getD k [] → x ≠ i) (hrr : ∀ x, x ∈ (rowsOf ps).getD k [] → ¬ Rch (edg (rowsOf ps)) x i) :
    apA d qs c (rowsOf qs) k = apA d ps c (rowsOf ps) k := by
  have hlen : qs.length = ps.length := by have := congrArg List.length hi; simpa using this
  obtain ⟨hn, hl, hc⟩ := ask_parts h0
  obtain ⟨hn', hl', hc'⟩ := ask_parts h0'
  have hrows : rowsOf qs = rowsOf ps := by unfold rowsOf; rw [hi, he, hlen]
  obtain ⟨rk, _, h2⟩ := rank_le (G := edg (rowsOf ps)) hl hc
  have key : ∀ N k, rk k < N → k < ps.length → ¬ Rch (edg (rowsOf ps)) k i → apA d qs c (rowsOf qs) k = apA d ps c (rowsOf ps) k := by
    intro N
    induction N with
    | zero => intro k h; omega
    | succ N ih =>
      intro k hN hkl hnr
      have hne : k ≠ i := fun e => hnr (e ▸ .refl _)
      rw [apA_eq hl hc k hkl, apA_eq hl' hc' k (by omega), hk k hne hkl (by omega)]
      congr 2
      rw [hrows]
      rw [Bool.eq_iff_iff, List.any_eq_true, List.any_eq_true]
      have step : ∀ y ∈ (rowsOf ps).getD k [], apA d qs c (rowsOf ps) y = apA d ps c (rowsOf ps) y := fun y hy => by
        have h3 := h2 k hkl y hy
        have h4 := ih y (by omega) (hl k y hy) (fun hr => hnr (.step hy hr))
        rwa [hrows] at h4
      constructor
      · rintro ⟨y, hy, ha⟩; exact ⟨y, hy, by rw [← step y hy]; exact ha⟩
      · rintro ⟨y, hy, ha⟩; exact ⟨y, hy, by rw [step y hy]; exact ha⟩
  refine key (rk k + 1) k (by omega) hkl (fun hr' => ?_)
  cases hr' with
  | refl => exact hki rfl
  | step e hr'' => exact hrr _ e hr''

end Go.Proofs.YtihpoecdnchioaaGreatDoor

namespace Go.Proofs.YtihpoecdnchioaaGreatDoor
open Go.RowKit Tj

/-- whether provision k excepts provision i -/
def excB (ps : List Pv) (k i : Nat) : Bool := inB ((ps.map Pv.except).getD k []) (idAt ps i)
/-- whether i is left and none that is left excepts it -/
def freeB (ps : List Pv) (gone : List Bool) (i : Nat) : Bool := !gone.getD i false && (List.range ps.length).all fun k => gone.getD k false || !excB ps k i
def onC (ps : List Pv) (i : Nat) : Bool := fw (eB (edg (rowsOf ps))) ps.length i i

/-- what holds of those that are gone -/
structure GoneI (ps : List Pv) (gone : List Bool) : Prop where
  len : gone.length = ps.length
  on : (ps.map Pv.id).Nodup → ∀ i, i < ps.length → onC ps i = true → gone.getD i false = false

theorem gone_start (ps : List Pv) : GoneI ps (List.replicate ps.length false) := by
  refine ⟨by simp, fun _ i hi _ => ?_⟩
  simp [List.getD_eq_getElem?_getD, hi]

theorem exc_row {ps : List Pv} (hn : (ps.map Pv.id).Nodup) {i k : Nat} (hi : i < ps.length) (hk : k < ps.length) : k ∈ edg (rowsOf ps) i ↔ excB ps k i = true := by
  unfold edg excB
  rw [mem_row hn hi hk, idAt_eq hi]
  have : (ps.map Pv.except).getD k [] = ps[k].except := by simp [List.getD_eq_getElem?_getD, hk]
  rw [this]

theorem onC_next {ps : List Pv} (hn : (ps.map Pv.id).Nodup) {i : Nat} (_hi : i < ps.length) (h : onC ps i = true) : ∃ x, x < ps.length ∧ x ∈ edg (rowsOf ps) i ∧ fw (eB (edg (rowsOf ps))) ps.length i x = true ∧ fw (eB (edg (rowsOf ps))) ps.length x i = true := by
  have hG : ∀ x, ∀ y ∈ edg (rowsOf ps) x, y < ps.length := rowsOf_lt hn
  unfold onC at h
  have h0 := h
  rw [fw_rch hG] at h
  obtain ⟨x, hx, hr⟩ := h
  refine ⟨x, hG i x hx, hx, (fw_rch hG i x).2 ⟨x, hx, .refl _⟩, ?_⟩
  -- from x to i by at least one edge
  cases hr with
  | refl => exact h0
  | step e hr' => exact (fw_rch hG x i).2 ⟨_, e, hr'⟩

theorem gone_step {ps : List Pv} {gone : List Bool} (h : GoneI ps gone) {i : Nat} (hi : i < ps.length) (hf : freeB ps gone i = true) : GoneI ps (gone.set i true) := by
  refine ⟨by rw [List.length_set]; exact h.len, fun hn x hx hon => ?_⟩
  by_cases e : x = i
  · subst e
    exfalso
    obtain ⟨y, hy, he, h1, h2⟩ := onC_next hn hx hon
    have hyon : onC ps y = true := fw_trans hx h2 h1
    have hg := h.on hn y hy hyon
    unfold freeB at hf
    rw [Bool.and_eq_true, List.all_eq_true] at hf
    have := hf.2 y (List.mem_range.2 hy)
    rw [hg, (exc_row hn hx hy).1 he] at this
    cases this
  · have := h.on hn x hx hon
    rw [List.getD_eq_getElem?_getD, List.getElem?_set_ne (Ne.symm e), ← List.getD_eq_getElem?_getD]
    exact this

/-- nothing is left if there are no circles -/
theorem gone_all {ps : List Pv} {gone : List Bool} (hn : (ps.map Pv.id).Nodup) (hend : ∀ i, i < ps.length → freeB ps gone i = false) (hc : circS (eB (edg (rowsOf ps))) ps.length = []) : ∀ i, i < ps.length → gone.getD i false = true := by
  obtain ⟨rk, _, h2⟩ := rank_le (G := edg (rowsOf ps)) (rowsOf_lt hn) hc
  have key : ∀ N i, rk i < N → i < ps.length → gone.getD i false = true := by
    intro N
    induction N with
    | zero => intro i h; omega
    | succ N ih =>
      intro i hN hi
      have hf := hend i hi
      unfold freeB at hf
      cases hg : gone.getD i false with
      | true => rfl
      | false =>
        rw [hg, Bool.not_false, Bool.true_and, List.all_eq_false] at hf
        obtain ⟨k, hk, hf⟩ := hf
        have hk := List.mem_range.1 hk
        rw [Bool.not_eq_true, Bool.or_eq_false_iff, Bool.not_eq_false'] at hf
        have hkr := (exc_row hn hi hk).2 hf.2
        have := h2 i hi k hkr
        have := ih k (by omega) hk
        rw [hf.1] at this
        cases this
  exact fun i hi => key (rk i + 1) i (by omega) hi

/-- how many are left -/
def leftN (gone : List Bool) : Nat := gone.countP (fun b => !b)

theorem leftN_set : ∀ (gone : List Bool) (i : Nat), i < gone.length → gone.getD i false = false → leftN (gone.set i true) + 1 = leftN gone
  | [], i, h, _ => by cases h
  | b :: gone, 0, _, hg => by
    have : b = false := by simpa using hg
    subst this
    simp [leftN]
  | b :: gone, i + 1, h, hg => by
    have := leftN_set gone i (by simpa using h) (by simpa using hg)
    unfold leftN at this ⊢
    rw [List.set_cons_succ, List.countP_cons, List.countP_cons]
    omega

theorem leftN_le (gone : List Bool) : leftN gone ≤ gone.length := List.countP_le_length
theorem leftN_start (n : Nat) : leftN (List.replicate n false) = n := by unfold leftN; rw [List.countP_replicate]; rfl
theorem leftN_zero (gone : List Bool) : leftN gone = 0 ↔ ∀ i, i < gone.length → gone.getD i false = true := by
  unfold leftN
  rw [List.countP_eq_zero]
  constructor
  · intro h i hi
    have := h gone[i] (List.getElem_mem hi)
    simpa [List.getD_eq_getElem?_getD, hi] using this
  · intro h b hb
    obtain ⟨i, hi, rfl⟩ := List.getElem_of_mem hb
    have := h i hi
    simpa [List.getD_eq_getElem?_getD, hi] using this

theorem circ_zero {ps : List Pv} {gone : List Bool} (hn : (ps.map Pv.id).Nodup) (h : GoneI ps gone) (hend : ∀ i, i < ps.length → freeB ps gone i = false) : leftN gone = 0 ↔ (circL ps).length = 0 := by
  have hcl : (circL ps).length = (circS (eB (edg (rowsOf ps))) ps.length).length := by unfold circL; rw [if_pos ((okP_iff ps).2 hn), List.length_map]
  rw [hcl, List.length_eq_zero_iff, leftN_zero]
  constructor
  · intro hg
    rw [circS_nil_iff]
    intro i hi
    rw [Bool.eq_false_iff]
    intro hon
    have h1 := h.on hn i hi hon
    have h2 := hg i (by rw [h.len]; exact hi)
    rw [h1] at h2
    cases h2
  · intro hc i hi
    exact gone_all hn hend hc i (by rw [h.len] at hi; exact hi)

/-- each circle's members: a provision of a circle, never gone, excepted by one of the same circle -/
theorem circ_member {ps : List Pv} {gone : List Bool} (h : GoneI ps gone) {l : List ByteArray} (hl : l ∈ circL ps) {s : ByteArray} (hs : s ∈ l) :
    (∀ m (hm : m < ps.length), ps[m].id = s → gone.getD m false = false) ∧ ∃ m, ∃ hm : m < ps.length, inB l ps[m].id = true ∧ inB ps[m].except s = true := by
  unfold circL at hl
  by_cases hok : okP ps = true
  · rw [if_pos hok] at hl
    have hn := (okP_iff ps).1 hok
    have hG : ∀ x, ∀ y ∈ edg (rowsOf ps) x, y < ps.length := rowsOf_lt hn
    obtain ⟨q, hq, rfl⟩ := List.mem_map.1 hl
    obtain ⟨i, hi, rfl⟩ := List.mem_map.1 hq
    obtain ⟨x, hx, rfl⟩ := List.mem_map.1 hs
    obtain ⟨hx1, hx2⟩ := List.mem_filter.1 hx
    have hx1 := List.mem_range.1 hx1
    have hi1 := List.mem_range.1 (List.mem_filter.1 hi).1
    have hm := mutB_iff.1 hx2
    have hon : onC ps x = true := fw_trans hi1 hm.2 hm.1
    refine ⟨fun m hml he => ?_, ?_⟩
    · have : m = x := idAt_inj hn hml hx1 (by rw [idAt_eq hml, he])
      subst this
      exact h.on hn m hml hon
    · obtain ⟨y, hy, he, h1, h2⟩ := onC_next hn hx1 hon
      refine ⟨y, hy, ?_, ?_⟩
      · rw [inB_iff, ← idAt_eq hy]
        exact List.mem_map.2 ⟨y, List.mem_filter.2 ⟨List.mem_range.2 hy, mutB_trans hx1 hx2 (mutB_iff.2 ⟨h1, h2⟩)⟩, rfl⟩
      · have := (exc_row hn hx1 hy).1 he
        unfold excB at this
        rwa [show (ps.map Pv.except).getD y [] = ps[y].except by simp [List.getD_eq_getElem?_getD, hy]] at this
  · rw [if_neg hok] at hl
    cases hl

end Go.Proofs.YtihpoecdnchioaaGreatDoor

namespace Go.Proofs.YtihpoecdnchioaaGreatDoor
open Go.RowKit

theorem nodup_take_succ (l : List ByteArray) (k : Nat) (h : k < l.length) (hn : (l.take k).Nodup) (hx : ∀ x, x < k → ∀ h' : x < l.length, l[x] ≠ l[k]) : (l.take (k + 1)).Nodup := by
  rw [List.take_succ_eq_append_getElem h, List.nodup_append]
  refine ⟨hn, by simp, fun a ha b hb e => ?_⟩
  simp at hb
  subst hb
  subst e
  obtain ⟨i, hi, e⟩ := List.getElem_of_mem ha
  rw [List.getElem_take] at e
  rw [List.length_take] at hi
  exact hx i (by omega) (by omega) e

set_option maxRecDepth 100000 in
set_option maxHeartbeats 4000000 in
theorem diff_any (d : List Fa) (ps : List Pv) (v : Value) (w : World) (B : Nat) (hB : B ≤ w.heap.size) (hl : LawIn w B d ps v) :
    Calls Tryz.prog 23 #[v] w fun e w' => e = .returned (.bool (okP ps)) ∧ Below w.heap.size w w' := by
  obtain ⟨u1, u2, asn, ns, cs, rfl, hd, hp⟩ := hl
  obtain ⟨ad, cd, rfl, d1, d2, _⟩ := SlIn.shape hd
  obtain ⟨ap, cp, rfl, p1, p2, _⟩ := SlIn.shape hp
  unfold maxLen at p2
  have hbw : Below w.heap.size w (w.alloc (.cells #[.slice ad d.length cd, .slice ap ps.length cp, .slice asn ns cs] 28)) := (Below.refl _ _).alloc (Nat.le_refl _) _
  have x1 : (w.alloc (.cells #[.slice ad d.length cd, .slice ap ps.length cp, .slice asn ns cs] 28)).cell? ⟨w.heap.size, 1, none⟩ = some (.slice ap ps.length cp) := (Blk.new w 28 #[.slice ad d.length cd, .slice ap ps.length cp, .slice asn ns cs]).cell 1
  have HX1 := Lib.hid x1
  have HBW := Lib.hid hbw
  have HP := Lib.hid hp
  have HOK := Lib.hid (okP_iff ps)
  generalize okP ps = R at *
  clear hd hp hbw x1
  go_enter Tryz.func23, Tryz.ntmps23
  go_wp2
  go_loopw [3] (fun iv wr => ∃ k : Nat, k ≤ ps.length ∧ iv = .int .i64 k ∧ Hid (((ps.map Pv.id).take k).Nodup) ∧ Hid (∃ q, wr = (w.alloc (.cells #[.slice ad d.length cd, .slice ap ps.length cp, .slice asn ns cs] 28)).drewN q)) (fun iv _ => ps.length - (intOf iv).toNat)
  case atStart => exact ⟨0, Nat.zero_le _, rfl, by show List.Nodup _; simp, 0, rfl⟩
  case round =>
    rename World => wq
    obtain ⟨k, hk, rfl, hnd, hwq⟩ := hrel
    have q1 : wq.cell? ⟨w.heap.size, 1, none⟩ = some (.slice ap ps.length cp) := by obtain ⟨q, rfl⟩ := hwq.out; exact HX1.out
    have bq : Below w.heap.size w wq := by obtain ⟨q, rfl⟩ := hwq.out; exact HBW.out.trans (World.drewN_below _ _ _)
    by_cases hlt : k < ps.length
    · have HND := hnd
      have HWQ := hwq
      clear hnd hwq bq
      go_wp2
      go_loopw [4] (fun jv wr => ∃ j : Nat, j ≤ k ∧ jv = .int .i64 j ∧ Hid (∀ x, x < j → ∀ h : x < (ps.map Pv.id).length, (ps.map Pv.id)[x] ≠ (ps.map Pv.id)[k]'(by simpa using hlt)) ∧ Hid (∃ q, wr = (w.alloc (.cells #[.slice ad d.length cd, .slice ap ps.length cp, .slice asn ns cs] 28)).drewN q)) (fun jv _ => k - (intOf jv).toNat)
      case atStart => exact ⟨0, Nat.zero_le _, rfl, (fun x hx => by omega), HWQ⟩
      case round =>
        obtain ⟨j, hj, rfl, hne, hwr⟩ := hrel
        have y1 : wr.cell? ⟨w.heap.size, 1, none⟩ = some (.slice ap ps.length cp) := by obtain ⟨q, rfl⟩ := hwr.out; exact HX1.out
        have br : Below w.heap.size w wr := by obtain ⟨q, rfl⟩ := hwr.out; exact HBW.out.trans (World.drewN_below _ _ _)
        by_cases hjk : j < k
        · obtain ⟨b, off, rfl, hbB, ak, ck, ae, ce, hr, _⟩ := SlIn.at HP.out k hlt
          obtain ⟨_, _, ak2, ck2, ae2, ce2, hr2, _⟩ := SlIn.get HP.out j (by omega)
          have ek := (br.cell (p := ⟨b, off + k * 23 + 0, none⟩) (by simp; omega)).trans (hr 0 _ rfl)
          have ej := (br.cell (p := ⟨b, off + j * 23 + 0, none⟩) (by simp; omega)).trans (hr2 0 _ rfl)
          rw [Nat.add_zero] at ek ej
          have HN : Hid (ps[j].id = ps[k].id → R = false) := fun e => by
            rw [Bool.eq_false_iff]
            intro hR
            have h1 := HOK.out.1 hR
            have hjl : j < ps.length := by omega
            have := idAt_inj h1 hjl hlt (by rw [idAt_eq hjl, idAt_eq hlt, e])
            omega
          have HM : Hid (ps[j].id ≠ ps[k].id → ∀ x, x < j + 1 → ∀ h : x < (ps.map Pv.id).length, (ps.map Pv.id)[x] ≠ (ps.map Pv.id)[k]'(by simpa using hlt)) := fun hn x hx h => by
            by_cases e : x = j
            · subst e; simpa using hn
            · exact hne.out x (by omega) h
          generalize ps[j].id = sj at *
          generalize ps[k].id = sk at *
          have hj0 : (0 : Int) ≤ (j : Int) := Int.natCast_nonneg _
          have hj1 : (j : Int) < (ps.length : Int) := by omega
          have hk0 : (0 : Int) ≤ (k : Int) := Int.natCast_nonneg _
          have hk1 : (k : Int) < (ps.length : Int) := by omega
          have HBR := Lib.hid br
          have HWR := hwr
          clear hr hr2 hne hwr br q1
          cases he : (sj.toList == sk.toList) with
          | true =>
            have HS := Lib.hid (HN.out ((eqB_iff sj sk).1 he))
            go_wp2
            go_quiet (fail)
            go_wp2
            go_ret
            exact ⟨ret_bool HS.out.symm, HBR.out.trans (World.drewN_below _ _ _)⟩
          | false =>
            have HS := Lib.hid (HM.out (fun e => by subst e; simp at he))
            go_wp2
            go_quiet (fail)
            go_wp2
            go_roundw
            case rel => exact ⟨j + 1, by omega, by go_num, HS, drew_more HWR.out⟩
            case measure => simp [intOf]; omega
        · have hjn : j = k := by omega
          subst hjn
          have HS := Lib.hid (nodup_take_succ (ps.map Pv.id) j (by simpa using hlt) HND.out (fun x hx h => hne.out x hx h))
          have HWR := hwr
          clear hne hwr br
          go_wp2
          go_roundw
          case rel => exact ⟨j + 1, by omega, by go_num, HS, HWR⟩
          case measure => simp [intOf]; omega
    · have HS : Hid (R = true) := by
        have h := hnd.out
        rw [List.take_of_length_le (by simp; omega)] at h
        exact HOK.out.2 h
      have HBQ := Lib.hid bq
      clear hnd hwq bq
      go_wp2
      go_ret
      exact ⟨ret_bool HS.out.symm, HBQ.out⟩

end Go.Proofs.YtihpoecdnchioaaGreatDoor

namespace Go.Proofs.YtihpoecdnchioaaGreatDoor
open Go.RowKit Tj

variable {d : List Fa} {c : List Int}

theorem pl_turn {e e' : Nat → Nat → Bool} {m : Nat} (he : ∀ x y, x < m → y < m → e x y = true → e' y x = true) {i k : Nat} (h : Pl e m i k) : i < m → k < m → Pl e' m k i := by
  induction h with
  | edge h => exact fun hi hk => .edge (he _ _ hi hk h)
  | cons h1 h2 _ ih => exact fun hi hk => (ih h2 hk).trans h2 (.edge (he _ _ hi h2 h1))
/-- chains of exceptions, turned round -/
theorem exc_fw {ps : List Pv} (hn : (ps.map Pv.id).Nodup) {i k : Nat} (hi : i < ps.length) (hk : k < ps.length) : fw (excB ps) ps.length i k = fw (eB (edg (rowsOf ps))) ps.length k i := by
  rw [Bool.eq_iff_iff, fw_iff, fw_iff]
  constructor
  · exact fun h => pl_turn (fun x y hx hy h => (eB_iff _ _ _).2 ((exc_row hn hy hx).2 h)) h hi hk
  · exact fun h => pl_turn (fun x y hx hy h => (exc_row hn hx hy).1 ((eB_iff _ _ _).1 h)) h hk hi

theorem set_map_self {α β : Type} (g : α → β) (l : List α) (i : Nat) (hi : i < l.length) (a : α) (h : g a = g l[i]) : (l.set i a).map g = l.map g := by
  refine List.ext_getElem (by simp) fun j h1 h2 => ?_
  rw [List.getElem_map, List.getElem_map, List.getElem_set]
  split
  · rename_i e; subst e; exact h
  · rfl

/-! ## a further condition -/

/-- a provision whose condition is joined to a further one by or -/
def chP (f : Fo) (p : Pv) : Pv := { p with cond := .mk 7 ⟨#[]⟩ 0 0 [p.cond, f] }

theorem changes_law {ps : List Pv} {i : Nat} (hi : i < ps.length) (f : Fo) (h0 : askE d ps c = 0) (h0' : askE d (ps.set i (chP f ps[i])) c = 0) (k : Nat) (hk : k < ps.length) (hki : k ≠ i) (hr : fw (excB ps) ps.length i k = false) :
    inB (appliedL d (ps.set i (chP f ps[i])) c) ps[k].id = inB (appliedL d ps c) ps[k].id := by
  obtain ⟨hn, hl, hc⟩ := ask_parts h0
  have hid := set_map_self Pv.id ps i hi (chP f ps[i]) rfl
  have hex := set_map_self Pv.except ps i hi (chP f ps[i]) rfl
  have hq : k < (ps.set i (chP f ps[i])).length := by simpa using hk
  have e1 : ((ps.set i (chP f ps[i]))[k]'hq).id = ps[k].id := by rw [← idAt_eq hq, ← idAt_eq hk]; unfold idAt; rw [hid]
  have h3 := in_applied h0' k hq
  rw [e1] at h3
  rw [in_applied h0 k hk, h3]
  rw [exc_fw hn hi hk] at hr
  refine change_stays hid hex (fun j hj h1 h2 => by rw [List.getElem_set_ne (Ne.symm hj)]) h0 h0' k hk hki ?_ ?_
  · intro x hx e
    subst e
    have := (fw_rch (G := edg (rowsOf ps)) hl k x).2 ⟨x, hx, .refl _⟩
    rw [hr] at this; cases this
  · intro x hx hrc
    have := (fw_rch (G := edg (rowsOf ps)) hl k i).2 ⟨x, hx, hrc⟩
    rw [hr] at this; cases this

/-! ## a further exception, a further provision -/

/-- a provision with a further exception -/
def exP (nm : ByteArray) (p : Pv) : Pv := { p with except := p.except ++ [nm] }
theorem inB_snoc_ne (l : List ByteArray) {s t : ByteArray} (h : s ≠ t) : inB (l ++ [s]) t = inB l t := by
  unfold inB
  rw [List.any_append, List.any_cons, List.any_nil, show eqB s t = false from Bool.eq_false_iff.2 fun e => h ((eqB_iff s t).1 e)]
  simp
theorem others_law {ps : List Pv} {i : Nat} (hi : i < ps.length) (nm : ByteArray) (hnm : ∀ p ∈ ps, p.id ≠ nm) :
    askE d (ps.set i (exP nm ps[i])) c = askE d ps c ∧ (if askE d (ps.set i (exP nm ps[i])) c = 0 then appliedL d (ps.set i (exP nm ps[i])) c else []) = (if askE d ps c = 0 then appliedL d ps c else []) := by
  have h := law_congr (d := d) (c := c) (ps := ps) (qs := ps.set i (exP nm ps[i])) (set_map_self Pv.id ps i hi _ rfl) (set_map_self Pv.cond ps i hi _ rfl) (fun a k h1 h2 h3 => by
    rw [List.getElem_set]
    split
    · rename_i e; subst e
      exact inB_snoc_ne _ (Ne.symm (hnm ps[a] (List.getElem_mem h1)))
    · rfl)
  refine ⟨h.1, ?_⟩
  rw [h.1]
  split
  · rename_i e; exact h.2 e
  · rfl

def st0' : St := ⟨0, ⟨#[]⟩, 0, none, 0, 0⟩
def neverP (nm : ByteArray) (es : List ByteArray) : Pv := ⟨nm, 0, 0, ⟨#[]⟩, 0, .mk 2 ⟨#[]⟩ 0 0 [], es, st0', st0', st0'⟩
theorem never_bad (d : List Fa) (nm : ByteArray) (es : List ByteArray) : badF d (neverP nm es) = false := by
  unfold badF neverP
  simp [checkF, Fo.size, Fo.sizeL, Fo.depth, Fo.depthL, nodesL, nodesLL, firstErr, nodeErr, formedB, badB, Fo.op, Fo.kids, Fo.name, Fo.cmp, Fo.n]
theorem never_holds (d : List Fa) (c : List Int) (nm : ByteArray) (es : List ByteArray) : holdsF (neverP nm es).cond d c [] = false := by
  unfold holdsF neverP
  simp [valF]
theorem more_res {ps : List Pv} (nm : ByteArray) (es : List ByteArray) (hnm : ∀ p ∈ ps, p.id ≠ nm) :
    askE d (ps ++ [neverP nm es]) c = 13 ∨ (askE d (ps ++ [neverP nm es]) c = askE d ps c ∧ (if askE d (ps ++ [neverP nm es]) c = 0 then appliedL d (ps ++ [neverP nm es]) c else []) = (if askE d ps c = 0 then appliedL d ps c else [])) := by
  have h := more_law (d := d) (c := c) (ps := ps) (p := neverP nm es) (fun hm => by obtain ⟨q, hq, e⟩ := List.mem_map.1 hm; exact hnm q hq e) (never_bad d nm es) (never_holds d c nm es)
  rcases h.1 with h1 | h1
  · exact .inl h1
  · refine .inr ⟨h1, ?_⟩
    rw [h1]
    split
    · rename_i e; exact h.2 (h1.trans e) e
    · rfl

/-! ## the circles of the reference -/

def circR (ps : List Pv) : List (List ByteArray) := if okP ps = true then (circS (excB ps) ps.length).map fun l => l.map (idAt ps) else []
theorem exc_mut {ps : List Pv} (hn : (ps.map Pv.id).Nodup) {i k : Nat} (hi : i < ps.length) (hk : k < ps.length) : mutB (excB ps) ps.length i k = mutB (eB (edg (rowsOf ps))) ps.length i k := by
  unfold mutB
  rw [exc_fw hn hi hk, exc_fw hn hk hi, Bool.and_comm]
theorem exc_first {ps : List Pv} (hn : (ps.map Pv.id).Nodup) {i : Nat} (hi : i < ps.length) : firstB (excB ps) ps.length i = firstB (eB (edg (rowsOf ps))) ps.length i := by
  unfold firstB
  rw [exc_fw hn hi hi]
  congr 1
  rw [Bool.eq_iff_iff, List.all_eq_true, List.all_eq_true]
  constructor <;> intro h k hk <;> have hk' := List.mem_range.1 hk <;> have h2 := h k hk
  · rwa [exc_mut hn hi (by omega)] at h2
  · rwa [exc_mut hn hi (by omega)]
theorem circR_eq (ps : List Pv) : circR ps = circL ps := by
  unfold circR circL
  by_cases h : okP ps = true
  · rw [if_pos h, if_pos h]
    congr 1
    have hn := (okP_iff ps).1 h
    unfold circS
    rw [List.filter_congr fun i hi => exc_first hn (List.mem_range.1 hi)]
    refine List.map_congr_left fun i hi => ?_
    have hi' := List.mem_range.1 (List.mem_filter.1 hi).1
    exact List.filter_congr fun k hk => exc_mut hn hi' (List.mem_range.1 hk)
  · rw [if_neg h, if_neg h]

end Go.Proofs.YtihpoecdnchioaaGreatDoor
