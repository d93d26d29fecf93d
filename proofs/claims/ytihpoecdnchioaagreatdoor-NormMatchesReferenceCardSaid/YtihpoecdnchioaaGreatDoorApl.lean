/- The walks of norm.Applies, Blocked, Circles; a small formula's size; what each step of NormDecides finds. A bound on the number of provisions and on the conditions' sizes. -/
import Derived.Test.YtihpoecdnchioaaGreatDoorAsk2
import Derived.Test.YtihpoecdnchioaaGreatDoorAp
import Derived.Test.YtihpoecdnchioaaGreatDoorFew
namespace Go.Proofs.YtihpoecdnchioaaGreatDoor
open Go.RowKit Tj

theorem strInfo : (Tryz.prog.info? 9).map (fun i => (i.zero, i.size, i.bytes)) = some (some (.string ByteArray.empty), 1, 16) := by kernel_rfl

def idAt (ps : List Pv) (j : Nat) : ByteArray := (ps.map Pv.id).getD j default
theorem idAt_eq {ps : List Pv} {k : Nat} (h : k < ps.length) : idAt ps k = ps[k].id := by unfold idAt; simp [List.getD_eq_getElem?_getD, h]
/-- the provisions that apply -/
def appliedL (d : List Fa) (ps : List Pv) (c : List Int) : List ByteArray := ((List.range ps.length).filter (apA d ps c (rowsOf ps))).map (idAt ps)

theorem own_strs {W : World} {base : Nat} {v : Value} {l : List ByteArray} (h : W.ownsRow base 9 1 v l.length (l.map Value.string)) {B : Nat} (hB : W.heap.size ≤ B) : StrsIn W B l v := by
  rcases h.2 with ⟨rfl, h0⟩ | ⟨g, cap, cur, rfl, _, hg, h1, h2, h3, h4⟩
  · have : l = [] := List.length_eq_zero_iff.1 h0
    subst this
    exact ⟨none, 0, rfl, Nat.zero_le _, Nat.zero_le _, fun e => absurd rfl e⟩
  · refine ⟨some ⟨g, 0, none⟩, cap, rfl, h1, h2, fun _ => ⟨g, 0, rfl, ?_, fun i hi => ?_⟩⟩
    · exact Nat.lt_of_lt_of_le (Array.getElem?_eq_some_iff.1 hg).1 hB
    · have h5 : (cur.toList.take (l.length * 1))[i]? = (l.map Value.string)[i]? := by rw [h4]
      rw [List.getElem?_take_of_lt (by omega), List.getElem?_map, List.getElem?_eq_getElem hi] at h5
      show W.cell? ⟨g, 0 + i * 1, none⟩ = some (.string _)
      simp only [World.cell?, hg]
      simpa using h5

theorem askE_zero {d : List Fa} {ps : List Pv} {c : List Int} (h : askE d ps c = 0) : okP ps = true ∧ fitsD d c = true ∧ ps.any (badF d) = false ∧ circS (eB (edg (rowsOf ps))) ps.length = [] := by
  unfold askE at h
  by_cases h1 : okP ps = true ∧ fitsD d c = true ∧ ps.any (badF d) = false
  · rw [if_pos h1] at h
    by_cases h2 : circS (eB (edg (rowsOf ps))) ps.length = []
    · exact ⟨h1.1, h1.2.1, h1.2.2, h2⟩
    · rw [if_neg h2] at h; cases h
  · rw [if_neg h1] at h; cases h

theorem filter_range_succ (p : Nat → Bool) (k : Nat) : (List.range (k + 1)).filter p = (List.range k).filter p ++ if p k then [k] else [] := by
  rw [List.range_succ, List.filter_append]
  congr 1
  cases h : p k <;> simp [h]

theorem row_kn {wr W1 w2 : World} {mk ab base e size n : Nat} {ap : Nat → Bool} {v : Value} {xs : List Value} (h : wr.ownsRow base e size v n xs) (hb : Below wr.heap.size wr W1) (hk : Kn W1 mk ab ap w2) (hm : mk < base) : w2.ownsRow base e size v n xs := by
  have h1 : W1.ownsRow base e size v n xs := h.kept (row := none) ⟨hb.os, hb.tape, hb.output, hb.size, fun k hk _ => hb.block k hk⟩ (by
    rcases h.2 with ⟨rfl, _⟩ | ⟨g, cap, cur, rfl, _⟩
    · exact .inl rfl
    · right; simp [Value.ownBlock])
  refine h1.kept hk.gr ?_
  rcases h.2 with ⟨rfl, _⟩ | ⟨g, cap, cur, rfl, hg, _⟩
  · exact .inl rfl
  · right; simp only [Value.ownBlock]; intro e; simp at e; omega
theorem own_ge {w : World} {base e size n : Nat} {v : Value} {xs : List Value} (h : w.ownsRow base e size v n xs) : ∀ b, v.ownBlock = some b → base ≤ b := by
  intro b hb
  rcases h.2 with ⟨rfl, _⟩ | ⟨g, cap, cur, rfl, hg, _⟩
  · cases hb
  · cases hb; exact hg

section
set_option maxRecDepth 100000 in
set_option maxHeartbeats 8000000 in
theorem appl_any (d : List Fa) (ps : List Pv) (c : List Int) (v cv : Value) (w : World) (B : Nat) (hn : ps.length ≤ 1000) (hB : B ≤ w.heap.size) (hl : LawIn w B d ps v) (hex : ∀ p ∈ ps, p.except.length ≤ 40) (hsz : ∀ p ∈ ps, p.cond.size ≤ 1000000) (hc : IntsIn w B c cv) :
    Calls Tryz.prog 12 #[v, cv] w fun e w' => ∃ u, e = .returned (.tuple #[u, .int .i64 (askE d ps c)]) ∧ Below w.heap.size w w' ∧ StrsIn w' w'.heap.size (if askE d ps c = 0 then appliedL d ps c else []) u := by
  have hl0 := hl
  obtain ⟨u1, u2, asn, ns, cs, rfl, hd, hp⟩ := hl
  obtain ⟨ad, cd, rfl, d1, d2, _⟩ := SlIn.shape hd
  obtain ⟨ap, cp, rfl, p1, p2, _⟩ := SlIn.shape hp
  have hc0 := hc
  obtain ⟨ac, cc, rfl, c1, c2, _⟩ := SlIn.shape hc
  unfold maxLen at p2
  have hbw : Below w.heap.size w (w.alloc (.cells #[.slice ad d.length cd, .slice ap ps.length cp, .slice asn ns cs] 28)) := (Below.refl _ _).alloc (Nat.le_refl _) _
  have K0 := Blk.new w 28 #[.slice ad d.length cd, .slice ap ps.length cp, .slice asn ns cs]
  have x0 : (w.alloc (.cells #[.slice ad d.length cd, .slice ap ps.length cp, .slice asn ns cs] 28)).cell? ⟨w.heap.size, 0, none⟩ = some (.slice ad d.length cd) := K0.cell 0
  have x1 : (w.alloc (.cells #[.slice ad d.length cd, .slice ap ps.length cp, .slice asn ns cs] 28)).cell? ⟨w.heap.size, 1, none⟩ = some (.slice ap ps.length cp) := K0.cell 1
  have x2 : (w.alloc (.cells #[.slice ad d.length cd, .slice ap ps.length cp, .slice asn ns cs] 28)).cell? ⟨w.heap.size, 2, none⟩ = some (.slice asn ns cs) := K0.cell 2
  have HASK := Lib.hid (ask_any d ps c _ _ (w.alloc (.cells #[.slice ad d.length cd, .slice ap ps.length cp, .slice asn ns cs] 28)) B hn (by simp; omega) (hl0.below (hbw.mono hB)) hex hsz (hc0.below (hbw.mono hB)))
  have HBW := Lib.hid hbw
  have HP := Lib.hid hp
  have HSZ := Lib.hid hsz
  have HAZ := Lib.hid (fun h => askE_zero (d := d) (ps := ps) (c := c) h)
  clear hl0 hd hp hc hc0 hbw K0 hex hsz
  by_cases hz : askE d ps c = 0
  · rw [if_pos hz]
    have HZ := Lib.hid (HAZ.out hz)
    rw [hz] at HASK ⊢
    clear HAZ hz
    obtain ⟨i0, hi0, hx0, hx1, hx2⟩ := info_parts strInfo
    go_enter Tryz.func12, Tryz.ntmps12
    go_wp2_with (go_at_call 28; refine HASK.out.mono ?_; rintro e w1 ⟨q, rfl, hb1, hq⟩; obtain ⟨ab, nb, bb, mk, mb, ad', cd', ap', cp', ac', cc', rfl, hE, hmk, hK, _⟩ := hq rfl; have HB1 := Lib.hid hb1; have HE := Lib.hid hE; have HK := Lib.hid (hK (apA d ps c (rowsOf ps))); have y1 := (hb1.cell (p := ⟨w.heap.size, 1, none⟩) (by simp)).trans x1; have s1 := hE.mlt; have s2 := hE.alt; simp only [World.size_alloc] at hmk; clear hb1 hq hE hK)
    go_loopw [8, 23] (fun vo iv wr => ∃ k : Nat, k ≤ ps.length ∧ iv = .int .i64 k ∧ Hid (wr.ownsRow w1.heap.size 9 1 vo ((List.range k).filter (apA d ps c (rowsOf ps))).length (((List.range k).filter (apA d ps c (rowsOf ps))).map fun j => .string (idAt ps j))) ∧ Hid (Kn w1 mk ab (apA d ps c (rowsOf ps)) wr)) (fun _ iv _ => ps.length - (intOf iv).toNat)
    case atStart => exact ⟨0, Nat.zero_le _, rfl, ⟨rfl, .inl ⟨rfl, rfl⟩⟩, HK⟩
    case round =>
      obtain ⟨k, hk, rfl, hown, hkn⟩ := hrel
      by_cases hlt : k < ps.length
      · have b0 : Below w.heap.size w wr := (HBW.out.trans (HB1.out.mono (by simp))).trans (hkn.out.bel.mono (by omega))
        have hs1 := hkn.out.bel.size
        have hid := idAt_eq hlt
        have hfs := filter_range_succ (apA d ps c (rowsOf ps)) k
        have hfl : ((List.range k).filter (apA d ps c (rowsOf ps))).length ≤ 1000 := by
          have := List.length_filter_le (apA d ps c (rowsOf ps)) (List.range k)
          rw [List.length_range] at this; omega
        have HAP := Lib.hid (fun W h => applies_any W B ab nb bb mk d ps c (rowsOf ps) ad' cd' ap' cp' ac' cc' (HE.out.move h) HSZ.out HZ.out.2.2.2 k W hlt h.base)
        obtain ⟨b, off, rfl, hbB, ak, ck, ae, ce, hr, hf, he, hzz⟩ := SlIn.at (HP.out.below PvR.kept (b0.mono hB)) k hlt
        generalize ps[k] = p at *
        have HRG := Lib.hid hr
        have HB0 := Lib.hid b0
        have HID := Lib.hid hid
        have HFS := Lib.hid hfs
        have HO := hown
        clear hr hf he hzz b0 hid hfs hown
        cases hap : apA d ps c (rowsOf ps) k with
        | false =>
          rw [hap] at HAP HFS
          have HF : Hid ((List.range (k + 1)).filter (apA d ps c (rowsOf ps)) = (List.range k).filter (apA d ps c (rowsOf ps))) := by show _ = _; rw [HFS.out]; simp
          clear HFS
          go_wp2_with (first
            | ((with_reducible show wpList _ _ _ (⟨_, Op.load 49 (.tmp 26), _, _, _, _⟩ :: _) _ _); refine wpList_load_pv rfl (.tmp 26) rfl rfl p ak ck ae ce HRG.out Tryz.underlying49 rfl Pv.info ?_)
            | ((with_reducible show wpList _ _ _ (⟨_, Op.store 49 (.tmp 10) (.tmp 27), _, _, _, _⟩ :: _) _ _); refine wpList_store_pv rfl (.tmp 10) (.tmp 27) rfl p ak ck ae ce rfl rfl ?hs1 Pv.info ?_; (case hs1 => rfl); intro W1 hb1 hz1 hr1 hf1; have e1_0 := hr1 0 _ rfl; have HR1 := Lib.hid hr1; clear hr1)
            | (go_at_call 29; refine (HAP.out _ (hkn.out.below s1 s2 hb1)).mono ?_; rintro e w2 ⟨rfl, hk2⟩; have HO2 := Lib.hid (row_kn HO.out hb1 hk2 (by omega)); have HK2 := Lib.hid ((hkn.out.below s1 s2 hb1).trans hk2); clear hk2))
          clear hb1 hf1 HR1 e1_0
          go_roundw
          case rel => exact ⟨k + 1, by omega, by go_num, by rw [HF.out]; exact HO2, HK2⟩
          case measure => simp [intOf]; omega
        | true =>
          rw [hap] at HAP HFS
          have HF : Hid ((List.range (k + 1)).filter (apA d ps c (rowsOf ps)) = (List.range k).filter (apA d ps c (rowsOf ps)) ++ [k]) := by show _ = _; rw [HFS.out]; simp
          clear HFS
          generalize hfe : (List.range k).filter (apA d ps c (rowsOf ps)) = fl at *
          go_wp2_with (first
            | ((with_reducible show wpList _ _ _ (⟨_, Op.load 49 (.tmp 26), _, _, _, _⟩ :: _) _ _); refine wpList_load_pv rfl (.tmp 26) rfl rfl p ak ck ae ce HRG.out Tryz.underlying49 rfl Pv.info ?_)
            | ((with_reducible show wpList _ _ _ (⟨_, Op.store 49 (.tmp 10) (.tmp 27), _, _, _, _⟩ :: _) _ _); refine wpList_store_pv rfl (.tmp 10) (.tmp 27) rfl p ak ck ae ce rfl rfl ?hs1 Pv.info ?_; (case hs1 => rfl); intro W1 hb1 hz1 hr1 hf1; have e1_0 := hr1 0 _ rfl; have HR1 := Lib.hid hr1; clear hr1)
            | (go_at_call 29; refine (HAP.out _ (hkn.out.below s1 s2 hb1)).mono ?_; rintro e w2 ⟨rfl, hk2⟩; have HO2 := Lib.hid (row_kn HO.out hb1 hk2 (by omega)); have HK2 := Lib.hid ((hkn.out.below s1 s2 hb1).trans hk2); have z0 := (World.cell?_of_block (w := W1) (a := ⟨wr.heap.size, 0, none⟩) (hk2.gr.block wr.heap.size (by omega) (by simp; omega))).trans e1_0; have hz2s := hk2.gr.size; clear hk2)
            | (at_builtin; go_loud (refine wpList_append_own_at _ rfl _ _ 32 rfl w1.heap.size 9 i0 _ 1 16 Tryz.underlying32 hi0 hx0 hx1 hx2 rfl (by decide) _ fl.length _ rfl (HO2.out.alloc _) ⟨w2.heap.size, 0, none⟩ 1 1 [.string p.id] rfl rfl (cell_one_new _ _ _) (by simp [Value.oneCell']) (by unfold maxLen; omega) (by omega) (by simp; omega) ?_; intro v9 w9 hown9 hgrow9 hnil9 hat9; have HK9 := Lib.hid ((HK2.out.below s1 s2 ((Below.refl _ _).alloc (Nat.le_refl _) (.cells #[.string p.id] 9))).grown s1 s2 hgrow9 (own_ge HO2.out)); have HO9 := Lib.hid hown9; clear hown9 hgrow9 hnil9 hat9)))
          clear hb1 hf1 HR1 e1_0 z0
          go_roundw
          case rel =>
            refine ⟨k + 1, by omega, by go_num, ?_, HK9⟩
            show World.ownsRow _ _ _ _ _ _ _
            rw [HF.out, List.length_append, List.map_append, List.map_cons, List.map_nil, HID.out]
            exact HO9.out
          case measure => simp [intOf]; omega
      · have hkn2 : k = ps.length := by omega
        subst hkn2
        have HO := hown
        clear hown hk hlt
        go_wp2
        go_ret2
        refine ⟨_, rfl, (HBW.out.trans (HB1.out.mono (by simp))).trans (hkn.out.bel.mono (by omega)), ?_⟩
        refine own_strs (base := w1.heap.size) ?_ (Nat.le_refl _)
        unfold appliedL
        rw [List.length_map, List.map_map]
        exact HO.out
  · rw [if_neg hz]
    have e0 : (askE d ps c != 0) = true := by simpa using hz
    generalize askE d ps c = er at *
    clear HAZ hz
    go_enter Tryz.func12, Tryz.ntmps12
    go_wp2_with (go_at_call 28; refine HASK.out.mono ?_; rintro e w1 ⟨q, rfl, hb1, _⟩; have HB1 := Lib.hid hb1; clear hb1)
    go_ret2
    exact ⟨.slice none 0 0, rfl, HBW.out.trans (HB1.out.mono (by simp)), none, 0, rfl, Nat.le_refl _, Nat.zero_le _, fun h => absurd rfl h⟩
end

end Go.Proofs.YtihpoecdnchioaaGreatDoor

namespace Go.Proofs.YtihpoecdnchioaaGreatDoor
open Go.RowKit Tj

/-- Blocked's error -/
def blkE (d : List Fa) (ps : List Pv) (c : List Int) (id : ByteArray) : Int := if askE d ps c = 0 then (if ((atK (ps.map Pv.id) ps.length).lookup id).isSome then 0 else 11) else askE d ps c
/-- what keeps a provision from applying -/
def blkL (d : List Fa) (ps : List Pv) (c : List Int) (id : ByteArray) : List ByteArray :=
  match (atK (ps.map Pv.id) ps.length).lookup id with
  | some x => (((rowsOf ps).getD x.toNat []).filter (apA d ps c (rowsOf ps))).map (idAt ps)
  | none => []

theorem filter_take_succ (p : Nat → Bool) (l : List Nat) (k : Nat) (hk : k < l.length) : (l.take (k + 1)).filter p = (l.take k).filter p ++ if p l[k] then [l[k]] else [] := by
  rw [List.take_succ_eq_append_getElem hk, List.filter_append]
  congr 1
  cases h : p l[k] <;> simp [h]

theorem rowsOf_le {ps : List Pv} (hn : (ps.map Pv.id).Nodup) (k : Nat) (hk : k < ps.length) : ((rowsOf ps).getD k []).length ≤ ps.length := by
  rw [rowsOf_get hn k hk]
  have := List.length_filter_le (fun j => inB ((ps.map Pv.except).getD j []) ps[k].id) (List.range ps.length)
  rwa [List.length_range] at this

section
set_option maxRecDepth 100000 in
set_option maxHeartbeats 8000000 in
theorem blk_any (d : List Fa) (ps : List Pv) (c : List Int) (id : ByteArray) (v cv : Value) (w : World) (B : Nat) (hn : ps.length ≤ 1000) (hB : B ≤ w.heap.size) (hl : LawIn w B d ps v) (hex : ∀ p ∈ ps, p.except.length ≤ 40) (hsz : ∀ p ∈ ps, p.cond.size ≤ 1000000) (hc : IntsIn w B c cv) :
    Calls Tryz.prog 14 #[v, .string id, cv] w fun e w' => ∃ u, e = .returned (.tuple #[u, .int .i64 (blkE d ps c id)]) ∧ Below w.heap.size w w' ∧ StrsIn w' w'.heap.size (if blkE d ps c id = 0 then blkL d ps c id else []) u := by
  have hl0 := hl
  obtain ⟨u1, u2, asn, ns, cs, rfl, hd, hp⟩ := hl
  obtain ⟨ad, cd, rfl, d1, d2, _⟩ := SlIn.shape hd
  obtain ⟨ap, cp, rfl, p1, p2, _⟩ := SlIn.shape hp
  have hc0 := hc
  obtain ⟨ac, cc, rfl, c1, c2, _⟩ := SlIn.shape hc
  unfold maxLen at p2
  have hbw : Below w.heap.size w (w.alloc (.cells #[.slice ad d.length cd, .slice ap ps.length cp, .slice asn ns cs] 28)) := (Below.refl _ _).alloc (Nat.le_refl _) _
  have K0 := Blk.new w 28 #[.slice ad d.length cd, .slice ap ps.length cp, .slice asn ns cs]
  have x0 : (w.alloc (.cells #[.slice ad d.length cd, .slice ap ps.length cp, .slice asn ns cs] 28)).cell? ⟨w.heap.size, 0, none⟩ = some (.slice ad d.length cd) := K0.cell 0
  have x1 : (w.alloc (.cells #[.slice ad d.length cd, .slice ap ps.length cp, .slice asn ns cs] 28)).cell? ⟨w.heap.size, 1, none⟩ = some (.slice ap ps.length cp) := K0.cell 1
  have x2 : (w.alloc (.cells #[.slice ad d.length cd, .slice ap ps.length cp, .slice asn ns cs] 28)).cell? ⟨w.heap.size, 2, none⟩ = some (.slice asn ns cs) := K0.cell 2
  have HASK := Lib.hid (ask_any d ps c _ _ (w.alloc (.cells #[.slice ad d.length cd, .slice ap ps.length cp, .slice asn ns cs] 28)) B hn (by simp; omega) (hl0.below (hbw.mono hB)) hex hsz (hc0.below (hbw.mono hB)))
  have HBW := Lib.hid hbw
  have HP := Lib.hid hp
  have HSZ := Lib.hid hsz
  have HAZ := Lib.hid (fun h => askE_zero (d := d) (ps := ps) (c := c) h)
  clear hl0 hd hp hc hc0 hbw K0 hex hsz
  by_cases hz : askE d ps c = 0
  · have HZ := Lib.hid (HAZ.out hz)
    have hE : blkE d ps c id = if ((atK (ps.map Pv.id) ps.length).lookup id).isSome then 0 else 11 := by unfold blkE; rw [if_pos hz]
    rw [hz] at HASK
    cases hlo : (atK (ps.map Pv.id) ps.length).lookup id with
    | none =>
      rw [hlo] at hE
      simp only [Option.isSome_none, Bool.false_eq_true, if_false] at hE
      rw [hE, if_neg (by decide)]
      clear HAZ hz hE
      have HLO := Lib.hid hlo
      clear hlo
      go_enter Tryz.func14, Tryz.ntmps14
      go_wp2_with (go_at_call 28; refine HASK.out.mono ?_; rintro e w1 ⟨q, rfl, hb1, hq⟩; obtain ⟨ab, nb, bb, mk, mb, ad', cd', ap', cp', ac', cc', rfl, hE, hmk, hK, hmb, y3, hmp⟩ := hq rfl; have HB1 := Lib.hid hb1; have y4 := hE.a0; have hlk := run_look_ok MapStr.key Tryz.underlying74 zero_int hmp id; rw [HLO.out] at hlk; clear hb1 hq hE hK hmp)
      go_ret2
      exact ⟨.slice none 0 0, rfl, HBW.out.trans (HB1.out.mono (by simp)), none, 0, rfl, Nat.le_refl _, Nat.zero_le _, fun h => absurd rfl h⟩
    | some x =>
      rw [hlo] at hE
      simp only [Option.isSome_some, if_true] at hE
      obtain ⟨q1, q2, q3⟩ := atK_some _ _ _ _ hlo
      obtain ⟨xn, rfl⟩ : ∃ xn : Nat, x = (xn : Int) := ⟨x.toNat, by omega⟩
      rw [Int.toNat_natCast] at q2
      have hbl : blkL d ps c id = (((rowsOf ps).getD xn []).filter (apA d ps c (rowsOf ps))).map (idAt ps) := by unfold blkL; rw [hlo]; simp
      rw [hE, if_pos rfl, hbl]
      have hrl0 := rowsOf_le ((okP_iff ps).1 HZ.out.1) xn q2
      obtain ⟨rl, hrl⟩ : ∃ rl, (rowsOf ps).getD xn [] = rl := ⟨_, rfl⟩
      rw [hrl] at hrl0 ⊢
      have HRL := Lib.hid hrl
      clear HAZ hz hE q3 hbl hrl
      have HLO := Lib.hid hlo
      clear hlo
      obtain ⟨i0, hi0, hx0, hx1, hx2⟩ := info_parts strInfo
      go_enter Tryz.func14, Tryz.ntmps14
      go_wp2_with (go_at_call 28; refine HASK.out.mono ?_; rintro e w1 ⟨q, rfl, hb1, hq⟩; obtain ⟨ab, nb, bb, mk, mb, ad', cd', ap', cp', ac', cc', rfl, hE, hmk, hK, hmb, y3, hmp⟩ := hq rfl; have HB1 := Lib.hid hb1; have y4 := hE.a0; have y5 := hE.n4; obtain ⟨rv0, y6, hri⟩ := hE.rw_ xn q2; obtain ⟨ra, rc, rfl, r1, r2, _⟩ := SlIn.shape hri; rw [List.length_map] at y6 hri r1; rw [HRL.out] at y6 hri r1; have HRI := Lib.hid hri; have hrt := hE.rlt xn; rw [HRL.out] at hrt; have HRT := Lib.hid hrt; have hmB := hE.hB; have HE := Lib.hid hE; have HK := Lib.hid (hK (apA d ps c (rowsOf ps))); have s1 := hE.mlt; have s2 := hE.alt; simp only [World.size_alloc] at hmk; have hlk := run_look_ok MapStr.key Tryz.underlying74 zero_int hmp id; rw [HLO.out] at hlk; have y1 := (hb1.cell (p := ⟨w.heap.size, 1, none⟩) (by simp)).trans x1; clear hb1 hq hE hK hmp hri hrt)
      unfold maxLen at r2
      go_loopw [12, 49] (fun vo iv wr => ∃ k : Nat, k ≤ rl.length ∧ iv = .int .i64 k ∧ Hid (wr.ownsRow w1.heap.size 9 1 vo ((rl.take k).filter (apA d ps c (rowsOf ps))).length (((rl.take k).filter (apA d ps c (rowsOf ps))).map fun j => .string (idAt ps j))) ∧ Hid (Kn w1 mk ab (apA d ps c (rowsOf ps)) wr)) (fun _ iv _ => rl.length - (intOf iv).toNat)
      case atStart => exact ⟨0, Nat.zero_le _, rfl, ⟨rfl, .inl ⟨rfl, rfl⟩⟩, HK⟩
      case round =>
        obtain ⟨k, hk, rfl, hown, hkn⟩ := hrel
        by_cases hlt : k < rl.length
        · have b0 : Below w.heap.size w wr := (HBW.out.trans (HB1.out.mono (by simp))).trans (hkn.out.bel.mono (by omega))
          have hs1 := hkn.out.bel.size
          obtain ⟨rb, ro, rfl, hrb, hrc⟩ := SlIn.one (HRI.out.below hkn.out.bel) k (by rw [List.length_map]; exact hlt)
          rw [List.getElem_map] at hrc
          have hyl := HRT.out _ (List.getElem_mem hlt)
          have hfs := filter_take_succ (apA d ps c (rowsOf ps)) rl k hlt
          have hfl : ((rl.take k).filter (apA d ps c (rowsOf ps))).length ≤ k := by
            have := List.length_filter_le (apA d ps c (rowsOf ps)) (rl.take k)
            rw [List.length_take] at this; omega
          generalize rl[k] = y at *
          have hid := idAt_eq hyl
          obtain ⟨b, off, rfl, hbB, ak, ck, ae, ce, hr, hf, he, hzz⟩ := SlIn.at (HP.out.below PvR.kept (b0.mono hB)) y hyl
          have HAP := Lib.hid (applies_any wr B ab nb bb mk d ps c (rowsOf ps) ad' cd' ap' cp' ac' cc' (HE.out.move hkn.out) HSZ.out HZ.out.2.2.2 y wr hyl hkn.out.base)
          generalize ps[y] = p at *
          have hr0 := hr 0 _ rfl
          have y0i : (0 : Int) ≤ (y : Int) := Int.natCast_nonneg _
          have y1i : (y : Int) < (ps.length : Int) := by omega
          have HB0 := Lib.hid b0
          have HID := Lib.hid hid
          have HFS := Lib.hid hfs
          have HO := hown
          have HY1 := Lib.hid y1
          clear hr hf he hzz b0 hid hfs hown y1 y3 y4 y5 y6 hlk x0 x1 x2
          cases hap : apA d ps c (rowsOf ps) y with
          | false =>
            rw [hap] at HAP HFS
            have HF : Hid ((rl.take (k + 1)).filter (apA d ps c (rowsOf ps)) = (rl.take k).filter (apA d ps c (rowsOf ps))) := by show _ = _; rw [HFS.out]; simp
            clear HFS
            go_wp2_with (go_at_call 29; refine HAP.out.mono ?_; rintro e w2 ⟨rfl, hk2⟩; have HO2 := Lib.hid (row_kn HO.out (Below.refl _ _) hk2 (by omega)); have HK2 := Lib.hid (hkn.out.trans hk2); clear hk2)
            go_roundw
            case rel => exact ⟨k + 1, by omega, by go_num, by rw [HF.out]; exact HO2, HK2⟩
            case measure => simp [intOf]; omega
          | true =>
            rw [hap] at HAP HFS
            have HF : Hid ((rl.take (k + 1)).filter (apA d ps c (rowsOf ps)) = (rl.take k).filter (apA d ps c (rowsOf ps)) ++ [y]) := by show _ = _; rw [HFS.out]; simp
            clear HFS
            generalize hfe : (rl.take k).filter (apA d ps c (rowsOf ps)) = fl at *
            go_wp2_with (first
              | (go_at_call 29; refine HAP.out.mono ?_; rintro e w2 ⟨rfl, hk2⟩; have HO2 := Lib.hid (row_kn HO.out (Below.refl _ _) hk2 (by omega)); have HK2 := Lib.hid (hkn.out.trans hk2); have z0 := (hk2.bel.cell (p := ⟨b, off + y * 23 + 0, none⟩) (by simp; omega)).trans hr0; rw [Nat.add_zero] at z0; have z1 := (HK2.out.bel.cell (p := ⟨w.heap.size, 1, none⟩) (by simp; omega)).trans HY1.out; have hz2s := hk2.gr.size; clear hk2)
              | (at_builtin; refine wpList_append_own_at _ rfl _ _ 32 rfl w1.heap.size 9 i0 _ 1 16 Tryz.underlying32 hi0 hx0 hx1 hx2 rfl (by decide) _ fl.length _ rfl (HO2.out.alloc _) ⟨w2.heap.size, 0, none⟩ 1 1 [.string p.id] rfl rfl (cell_one_new _ _ _) (by simp [Value.oneCell']) (by unfold maxLen; omega) (by omega) (by simp; omega) ?_; intro v9 w9 hown9 hgrow9 hnil9 hat9; have HK9 := Lib.hid ((HK2.out.below s1 s2 ((Below.refl _ _).alloc (Nat.le_refl _) (.cells #[.string p.id] 9))).grown s1 s2 hgrow9 (own_ge HO2.out)); have HO9 := Lib.hid hown9; clear hown9 hgrow9 hnil9 hat9))
            clear z0 z1
            go_roundw
            case rel =>
              refine ⟨k + 1, by omega, by go_num, ?_, HK9⟩
              show World.ownsRow _ _ _ _ _ _ _
              rw [HF.out, List.length_append, List.map_append, List.map_cons, List.map_nil, HID.out]
              exact HO9.out
            case measure => simp [intOf]; omega
        · have hkn2 : k = rl.length := by omega
          subst hkn2
          have HO := hown
          clear hown hk hlt
          go_wp2
          go_ret2
          refine ⟨_, rfl, (HBW.out.trans (HB1.out.mono (by simp))).trans (hkn.out.bel.mono (by omega)), ?_⟩
          refine own_strs (base := w1.heap.size) ?_ (Nat.le_refl _)
          have h := HO.out
          rw [List.take_length] at h
          rw [List.length_map, List.map_map]
          exact h
  · have hE : blkE d ps c id = askE d ps c := by unfold blkE; rw [if_neg hz]
    rw [hE, if_neg hz]
    have e0 : (askE d ps c != 0) = true := by simpa using hz
    generalize askE d ps c = er at *
    clear HAZ hz hE
    go_enter Tryz.func14, Tryz.ntmps14
    go_wp2_with (go_at_call 28; refine HASK.out.mono ?_; rintro e w1 ⟨q, rfl, hb1, _⟩; have HB1 := Lib.hid hb1; clear hb1)
    go_ret2
    exact ⟨.slice none 0 0, rfl, HBW.out.trans (HB1.out.mono (by simp)), none, 0, rfl, Nat.le_refl _, Nat.zero_le _, fun h => absurd rfl h⟩
end

end Go.Proofs.YtihpoecdnchioaaGreatDoor

namespace Go.Proofs.YtihpoecdnchioaaGreatDoor
open Go.RowKit Tj

/-- the circles as lists of Ids -/
def circL (ps : List Pv) : List (List ByteArray) := if okP ps = true then (circS (eB (edg (rowsOf ps))) ps.length).map fun l => l.map (idAt ps) else []

/-- a row of rows of strings, of the call's own -/
structure RowsS (W : World) (base : Nat) (ls : List (List ByteArray)) (u : Value) (vals : List Value) : Prop where
  own : W.ownsRow base 32 1 u vals.length vals
  len : vals.length = ls.length
  rows : ∀ k, k < ls.length → W.ownsRow base 9 1 (vals.getD k undef) (ls.getD k []).length ((ls.getD k []).map Value.string)

theorem RowsS.below {W W' : World} {base : Nat} {ls : List (List ByteArray)} {u : Value} {vals : List Value} (h : RowsS W base ls u vals) (hb : Below W.heap.size W W') : RowsS W' base ls u vals := by
  have hg : W.grownBy W' none := ⟨hb.os, hb.tape, hb.output, hb.size, fun k hk _ => hb.block k hk⟩
  have hn : ∀ {e n : Nat} {v : Value} {xs : List Value}, W.ownsRow base e 1 v n xs → v.ownBlock = none ∨ v.ownBlock ≠ none := fun h => by
    rcases h.2 with ⟨rfl, _⟩ | ⟨g, cap, cur, rfl, _⟩
    · exact .inl rfl
    · right; simp [Value.ownBlock]
  exact ⟨h.own.kept hg (hn h.own), h.len, fun k hk => (h.rows k hk).kept hg (hn (h.rows k hk))⟩

theorem RowsS.push {W W1 W' : World} {base : Nat} {ls : List (List ByteArray)} {u u' v : Value} {vals : List Value} {l : List ByteArray} (h : RowsS W base ls u vals) (hv : W.ownsRow base 9 1 v l.length (l.map Value.string)) (hb : Below W.heap.size W W1)
    (hown : W'.ownsRow base 32 1 u' (vals.length + 1) (vals ++ [v])) (hg : W1.grownBy W' u.ownBlock) : RowsS W' base (ls ++ [l]) u' (vals ++ [v]) := by
  have h1 := h.below hb
  have hv1 : W1.ownsRow base 9 1 v l.length (l.map Value.string) := hv.kept (row := none) ⟨hb.os, hb.tape, hb.output, hb.size, fun k hk _ => hb.block k hk⟩ (by
    rcases hv.2 with ⟨rfl, _⟩ | ⟨g, cap, cur, rfl, _⟩
    · exact .inl rfl
    · right; simp [Value.ownBlock])
  refine ⟨by rw [List.length_append]; exact hown, by rw [List.length_append, List.length_append, h.len]; rfl, fun k hk => ?_⟩
  rw [List.length_append, List.length_singleton] at hk
  have hl := h.len
  by_cases e : k < ls.length
  · have h2 := h1.rows k e
    have e1 : (vals ++ [v]).getD k undef = vals.getD k undef := by simp [List.getD_eq_getElem?_getD, List.getElem?_append_left (show k < vals.length by omega)]
    have e2 : (ls ++ [l]).getD k [] = ls.getD k [] := by simp [List.getD_eq_getElem?_getD, List.getElem?_append_left e]
    rw [e1, e2]
    exact h2.kept hg (own_types h2 h1.own (by decide))
  · obtain rfl : k = ls.length := by omega
    have e1 : (vals ++ [v]).getD ls.length undef = v := by rw [← hl]; simp [List.getD_eq_getElem?_getD]
    have e2 : (ls ++ [l]).getD ls.length [] = l := by simp [List.getD_eq_getElem?_getD]
    rw [e1, e2]
    exact hv1.kept hg (own_types hv1 h1.own (by decide))

theorem RowsS.strss {W : World} {base : Nat} {ls : List (List ByteArray)} {u : Value} {vals : List Value} (h : RowsS W base ls u vals) : StrssIn W W.heap.size ls u := by
  have hl := h.len
  rcases h.own.2 with ⟨rfl, h0⟩ | ⟨g, cap, cur, rfl, _, hg, h1, h2, h3, h4⟩
  · have : ls = [] := List.length_eq_zero_iff.1 (by omega)
    subst this
    exact ⟨none, 0, rfl, Nat.le_refl _, Nat.zero_le _, fun e => absurd rfl e⟩
  · refine ⟨some ⟨g, 0, none⟩, cap, by rw [hl], by omega, h2, fun _ => ⟨g, 0, rfl, (Array.getElem?_eq_some_iff.1 hg).1, fun i hi => ?_⟩⟩
    have h5 : (cur.toList.take (vals.length * 1))[i]? = vals[i]? := by rw [h4]
    rw [List.getElem?_take_of_lt (by omega), List.getElem?_eq_getElem (show i < vals.length by omega)] at h5
    refine ⟨vals[i], ?_, ?_⟩
    · show W.cell? ⟨g, 0 + i * 1, none⟩ = some _
      simp only [World.cell?, hg]
      simpa using h5
    · have h6 := h.rows i hi
      rw [show vals.getD i undef = vals[i] by simp [List.getD_eq_getElem?_getD, show i < vals.length by omega], show ls.getD i [] = ls[i] by simp [List.getD_eq_getElem?_getD, hi]] at h6
      exact own_strs h6 (Nat.le_refl _)

theorem own_base {W : World} {b1 b2 e size n : Nat} {v : Value} {xs : List Value} (h : W.ownsRow b1 e size v n xs) (hb : b2 ≤ b1) : W.ownsRow b2 e size v n xs := by
  refine ⟨h.1, ?_⟩
  rcases h.2 with h0 | ⟨g, cap, cur, h1, h2, h3⟩
  · exact .inl h0
  · exact .inr ⟨g, cap, cur, h1, by omega, h3⟩

theorem circS_len (e : Nat → Nat → Bool) (n : Nat) : (circS e n).length ≤ n := by
  unfold circS
  rw [List.length_map]
  have := List.length_filter_le (firstB e n) (List.range n)
  rwa [List.length_range] at this
theorem circS_mem {e : Nat → Nat → Bool} {n : Nat} {l : List Nat} (h : l ∈ circS e n) : l.length ≤ n ∧ ∀ x ∈ l, x < n := by
  unfold circS at h
  obtain ⟨i, _, rfl⟩ := List.mem_map.1 h
  refine ⟨?_, fun x hx => List.mem_range.1 (List.mem_filter.1 hx).1⟩
  have := List.length_filter_le (mutB e n i) (List.range n)
  rwa [List.length_range] at this

theorem strsInfo : (Tryz.prog.info? 32).map (fun i => (i.zero, i.size, i.bytes)) = some (some (.slice none 0 0), 1, 24) := by kernel_rfl

section
set_option maxRecDepth 100000 in
set_option maxHeartbeats 8000000 in
theorem circ_any (d : List Fa) (ps : List Pv) (v : Value) (w : World) (B : Nat) (hn : ps.length ≤ 1000) (hB : B ≤ w.heap.size) (hl : LawIn w B d ps v) (hex : ∀ p ∈ ps, p.except.length ≤ 40) :
    Calls Tryz.prog 18 #[v] w fun e w' => ∃ u, e = .returned u ∧ Below w.heap.size w w' ∧ StrssIn w' w'.heap.size (circL ps) u := by
  have hl0 := hl
  obtain ⟨u1, u2, asn, ns, cs, rfl, hd, hp⟩ := hl
  obtain ⟨ad, cd, rfl, d1, d2, _⟩ := SlIn.shape hd
  obtain ⟨ap, cp, rfl, p1, p2, _⟩ := SlIn.shape hp
  unfold maxLen at p2
  have hbw : Below w.heap.size w (w.alloc (.cells #[.slice ad d.length cd, .slice ap ps.length cp, .slice asn ns cs] 28)) := (Below.refl _ _).alloc (Nat.le_refl _) _
  have K0 := Blk.new w 28 #[.slice ad d.length cd, .slice ap ps.length cp, .slice asn ns cs]
  have x0 : (w.alloc (.cells #[.slice ad d.length cd, .slice ap ps.length cp, .slice asn ns cs] 28)).cell? ⟨w.heap.size, 0, none⟩ = some (.slice ad d.length cd) := K0.cell 0
  have x1 : (w.alloc (.cells #[.slice ad d.length cd, .slice ap ps.length cp, .slice asn ns cs] 28)).cell? ⟨w.heap.size, 1, none⟩ = some (.slice ap ps.length cp) := K0.cell 1
  have x2 : (w.alloc (.cells #[.slice ad d.length cd, .slice ap ps.length cp, .slice asn ns cs] 28)).cell? ⟨w.heap.size, 2, none⟩ = some (.slice asn ns cs) := K0.cell 2
  have HOF := Lib.hid (of_any d ps _ (w.alloc (.cells #[.slice ad d.length cd, .slice ap ps.length cp, .slice asn ns cs] 28)) B hn (by simp; omega) (hl0.below (hbw.mono hB)) hex)
  have HBW := Lib.hid hbw
  have HP := Lib.hid hp
  have hOK : decide ((atK (ps.map Pv.id) ps.length).length = ps.length) = okP ps := rfl
  cases hok : okP ps with
  | false =>
    have hcl : circL ps = [] := by unfold circL; rw [hok]; rfl
    rw [hcl]
    rw [hok] at hOK
    have HOK := Lib.hid hOK
    clear hl0 hd hp hbw K0 hOK hok hcl hex
    go_enter Tryz.func18, Tryz.ntmps18
    go_wp2_with (go_at_call 32; refine HOF.out.mono ?_; rintro e w1 ⟨nb, u1, u2, u3, ok, hv, rfl, hok, hnet, hb1⟩; injection hv with hv; injection hv with hv; injection hv with v1 hv; injection hv with v2 hv; injection hv with v3 hv; subst v1; subst v2; subst v3; clear hv; have HNET := Lib.hid hnet; have HB1 := Lib.hid (HBW.out.trans (hb1.mono (by simp))); have HBX := Lib.hid hb1; have hz1 := hb1.size; simp only [World.size_alloc] at hz1; have y1 := (hb1.cell (p := ⟨w.heap.size, 1, none⟩) (by simp)).trans x1; rw [HOK.out] at hok; subst hok; clear hnet hb1)
    go_ret
    exact ⟨.slice none 0 0, rfl, HB1.out, none, 0, rfl, Nat.le_refl _, Nat.zero_le _, fun h => absurd rfl h⟩
  | true =>
    have hcl : circL ps = (circS (eB (edg (rowsOf ps))) ps.length).map fun l => l.map (idAt ps) := by unfold circL; rw [hok]; rfl
    rw [hcl]
    rw [hok] at hOK
    have HOK := Lib.hid hOK
    have HGR : Hid (∀ (nb : Nat) W, NetR W nb ps.length (rowsOf ps) → Calls Tryz.prog 33 #[.pointer (some ⟨nb, 0, none⟩)] W fun e w' => ∃ v, e = .returned v ∧ IntssIn w' w'.heap.size ((circS (eB (edg (rowsOf ps))) ps.length).map fun l => l.map fun x : Nat => (x : Int)) v ∧ Below W.heap.size W w') :=
      fun nb W h => groups_any ps.length nb (rowsOf ps) W hn (rowsOf_lt ((okP_iff ps).1 hok)) h
    have hcle := circS_len (eB (edg (rowsOf ps))) ps.length
    have HCM := Lib.hid (fun l (h : l ∈ circS (eB (edg (rowsOf ps))) ps.length) => circS_mem h)
    generalize circS (eB (edg (rowsOf ps))) ps.length = cr at *
    clear hl0 hd hp hbw K0 hOK hok hcl hex
    obtain ⟨i0, hi0, hx0, hx1, hx2⟩ := info_parts strInfo
    obtain ⟨i1, hi1, hw0, hw1, hw2⟩ := info_parts strsInfo
    go_enter Tryz.func18, Tryz.ntmps18
    go_wp2_with (first
      | (go_at_call 32; refine HOF.out.mono ?_; rintro e w1 ⟨nb, u1, u2, u3, ok, hv, rfl, hok, hnet, hb1⟩; injection hv with hv; injection hv with hv; injection hv with v1 hv; injection hv with v2 hv; injection hv with v3 hv; subst v1; subst v2; subst v3; clear hv; have HNET := Lib.hid hnet; have HB1 := Lib.hid (HBW.out.trans (hb1.mono (by simp))); have HBX := Lib.hid hb1; have hz1 := hb1.size; simp only [World.size_alloc] at hz1; have y1 := (hb1.cell (p := ⟨w.heap.size, 1, none⟩) (by simp)).trans x1; rw [HOK.out] at hok; subst hok; clear hnet hb1)
      | (go_at_call 33; refine (HGR.out _ _ (net_netR HNET.out (rowsOf_len ps) (Below.refl _ _))).mono ?_; rintro e w4 ⟨gv, rfl, hgv, hb4⟩; obtain ⟨ga, gc, rfl, g1, g2, _⟩ := SlIn.shape hgv; rw [List.length_map] at g1 hgv; rw [List.length_map]; have HGV := Lib.hid hgv; have HB4 := Lib.hid hb4; have hz4 := hb4.size; have y4 := (hb4.cell (p := ⟨w.heap.size, 1, none⟩) (by simp; omega)).trans y1; clear hb4 hgv))
    unfold maxLen at g2
    go_loopw [5, 21] (fun uo iv wr => ∃ (k : Nat) (vals : List Value), k ≤ cr.length ∧ iv = .int .i64 k ∧ Hid (RowsS wr w4.heap.size ((cr.take k).map fun l => l.map (idAt ps)) uo vals) ∧ Hid (Below w4.heap.size w4 wr)) (fun _ iv _ => cr.length - (intOf iv).toNat)
    case atStart => exact ⟨0, [], Nat.zero_le _, rfl, ⟨⟨rfl, .inl ⟨rfl, rfl⟩⟩, rfl, fun k hk => by cases hk⟩, Below.refl _ _⟩
    case round =>
      rename World => wq
      obtain ⟨k, vals, hk, rfl, hrow, hbr⟩ := hrel
      by_cases hlt : k < cr.length
      · obtain ⟨gb, go, ga2, gc2, rfl, hgb, hgcell, hgi⟩ := SlIn.row (SlIn.below (SlR.kept (OneR.kept _) 1) hbr.out HGV.out) k (by rw [List.length_map]; exact hlt)
        have hcm := HCM.out _ (List.getElem_mem hlt)
        have htk : cr.take (k + 1) = cr.take k ++ [cr[k]] := List.take_succ_eq_append_getElem hlt
        have hgcell2 : wq.cell? ⟨gb, go + k, none⟩ = some (.slice ga2 (cr[k]).length gc2) := by simpa using hgcell
        have hgi2 : IntsIn wq w4.heap.size ((cr[k]).map fun x : Nat => (x : Int)) (.slice ga2 (cr[k]).length gc2) := by simpa using hgi
        clear hgcell hgi
        generalize cr[k] = g at *
        obtain ⟨hcl1, hcl2⟩ := hcm
        have y5 := (hbr.out.cell (p := ⟨w.heap.size, 1, none⟩) (by simp; omega)).trans y4
        have hrs := hbr.out.size
        have hk0 : (0 : Int) ≤ (k : Int) := Int.natCast_nonneg _
        have HGI := Lib.hid hgi2
        have HCL2 := Lib.hid hcl2
        have HTK := Lib.hid htk
        have HR := hrow
        have HBR := hbr
        have hvl : vals.length = k := by have := hrow.out.len; rw [List.length_map, List.length_take] at this; omega
        have HPW := Lib.hid (HP.out.below PvR.kept (((HB1.out.trans (HB4.out.mono (by omega))).trans (hbr.out.mono (by omega))).mono hB))
        clear hgi2 hcl2 htk hrow hbr
        go_wp2
        go_loopw [8, 27] (fun io jv wr => ∃ j : Nat, j ≤ g.length ∧ jv = .int .i64 j ∧ Hid (wr.ownsRow wq.heap.size 9 1 io j (((g.take j).map (idAt ps)).map Value.string)) ∧ Hid (Below wq.heap.size wq wr)) (fun _ jv _ => g.length - (intOf jv).toNat)
        case atStart => exact ⟨0, Nat.zero_le _, rfl, ⟨rfl, .inl ⟨rfl, rfl⟩⟩, Below.refl _ _⟩
        case round =>
          obtain ⟨j, hj, rfl, hio, hbs⟩ := hrel
          by_cases hjl : j < g.length
          · obtain ⟨eb, eo, rfl, heb, hec⟩ := SlIn.one (HGI.out.below (hbs.out.mono hrs)) j (by rw [List.length_map]; exact hjl)
            rw [List.getElem_map] at hec
            have hyl := HCL2.out _ (List.getElem_mem hjl)
            have htj : g.take (j + 1) = g.take j ++ [g[j]] := List.take_succ_eq_append_getElem hjl
            generalize g[j] = y at *
            have hid := idAt_eq hyl
            obtain ⟨b, off, rfl, hbB, ak, ck, ae, ce, hr, hf, he, hzz⟩ := SlIn.at (HPW.out.below PvR.kept (hbs.out.mono (by omega))) y hyl
            generalize ps[y] = p at *
            have hr0 := hr 0 _ rfl
            rw [Nat.add_zero] at hr0
            have y6 := (hbs.out.cell (p := ⟨w.heap.size, 1, none⟩) (by simp; omega)).trans y5
            have y0i : (0 : Int) ≤ (y : Int) := Int.natCast_nonneg _
            have y1i : (y : Int) < (ps.length : Int) := by omega
            have hss := hbs.out.size
            have HIO := hio
            have HBS := hbs
            have HID := Lib.hid hid
            have HTJ := Lib.hid htj
            clear hr hf he hzz hid htj hio hbs
            go_wp2_with (at_builtin; refine wpList_append_own_at _ rfl _ _ 32 rfl wq.heap.size 9 i0 _ 1 16 Tryz.underlying32 hi0 hx0 hx1 hx2 rfl (by decide) _ j _ rfl (HIO.out.alloc _) ⟨wr.heap.size, 0, none⟩ 1 1 [.string p.id] rfl rfl (cell_one_new _ _ _) (by simp [Value.oneCell']) (by unfold maxLen; omega) (by omega) (by simp; omega) ?_; intro v9 w9 hown9 hgrow9 hnil9 hat9; have HB9 := Lib.hid ((HBS.out.trans ((Below.refl _ _).alloc (by omega) (.cells #[.string p.id] 9))).grown hgrow9 (by simp; omega) (fun b e => own_ge HIO.out b e)); have HO9 := Lib.hid hown9; clear hown9 hgrow9 hnil9 hat9)
            clear y6 hr0
            go_roundw
            case rel =>
              refine ⟨j + 1, by omega, by go_num, ?_, HB9⟩
              show World.ownsRow _ _ _ _ _ _ _
              rw [HTJ.out, List.map_append, List.map_append, List.map_cons, List.map_nil, List.map_cons, List.map_nil, HID.out]
              exact HO9.out
            case measure => simp [intOf]; omega
          · have hjn : j = g.length := by omega
            subst hjn
            have HIO : Hid (wr.ownsRow w4.heap.size 9 1 u8 (g.map (idAt ps)).length ((g.map (idAt ps)).map Value.string)) := by
              have h := hio.out
              rw [List.take_length] at h
              rw [List.length_map]
              exact own_base h hrs
            have HBS := hbs
            have HRS := Lib.hid (HR.out.below hbs.out)
            have hss := hbs.out.size
            clear hio hbs hj hjl
            obtain ⟨ua, un, uc, rfl⟩ : ∃ ua un uc, u8 = .slice ua un uc := by
              rcases HIO.out.2 with ⟨h0, _⟩ | ⟨g', cap, cur, h0, _⟩
              · exact ⟨_, _, _, h0⟩
              · exact ⟨_, _, _, h0⟩
            go_wp2_with (at_builtin; refine wpList_append_own_at _ rfl _ _ 39 rfl w4.heap.size 32 i1 _ 1 24 Tryz.underlying39 hi1 hw0 hw1 hw2 rfl (by decide) _ vals.length vals rfl (HRS.out.own.alloc _) ⟨wr.heap.size, 0, none⟩ 1 1 [.slice ua un uc] rfl rfl (cell_one_new _ _ _) (by simp [Value.oneCell']) (by unfold maxLen; omega) (by omega) (by simp; omega) ?_; intro v9 w9 hown9 hgrow9 hnil9 hat9; have HR9 := Lib.hid (RowsS.push HRS.out HIO.out ((Below.refl _ _).alloc (Nat.le_refl _) _) hown9 hgrow9); have HB9 := Lib.hid (((HBR.out.trans (HBS.out.mono (by omega))).trans ((Below.refl _ _).alloc (by omega) (.cells #[.slice ua un uc] 32))).grown hgrow9 (by simp; omega) (fun b e => own_ge HRS.out.own b e)); clear hown9 hgrow9 hnil9 hat9)
            go_roundw
            case rel => exact ⟨k + 1, vals ++ [.slice ua un uc], by omega, by go_num, by rw [HTK.out, List.map_append]; exact HR9, HB9⟩
            case measure => simp [intOf]; omega
      · have hkn : k = cr.length := by omega
        subst hkn
        have HR := hrow
        have HBR := hbr
        clear hrow hbr hk hlt
        go_wp2
        go_ret
        refine ⟨_, rfl, (HB1.out.trans (HB4.out.mono (by omega))).trans (HBR.out.mono (by omega)), ?_⟩
        have h := HR.out.strss
        rw [List.take_length] at h
        exact h
end

end Go.Proofs.YtihpoecdnchioaaGreatDoor

namespace Go.Proofs.YtihpoecdnchioaaGreatDoor

theorem countL_ge : ∀ (ks : List Fo) (most n : Int), 0 ≤ most → 1 ≤ n → n ≤ most + 1 → n ≤ countL ks most n
  | [], most, n, _, _, _ => by rw [countL]; omega
  | k :: ks, most, n, h0, h1, h2 => by
    rw [countL]
    split
    · have := countF_bd k (most - n) (by omega)
      have := countL_ge ks most (n + countF k (most - n)) h0 (by omega) (by omega)
      omega
    · omega

mutual
theorem countF_eq : ∀ (f : Fo) (most : Int), 0 ≤ most → countF f most ≤ most → countF f most = (f.size : Int)
  | .mk _ _ _ _ ks, most, h0, h => by
    rw [countF] at h ⊢
    rw [countL_eq ks most 1 (by omega) (by omega) (by omega) h, Fo.size]
    omega
theorem countL_eq : ∀ (ks : List Fo) (most n : Int), 0 ≤ most → 1 ≤ n → n ≤ most + 1 → countL ks most n ≤ most → countL ks most n = n + (Fo.sizeL ks : Int)
  | [], most, n, _, _, _, _ => by rw [countL, Fo.sizeL]; omega
  | k :: ks, most, n, h0, h1, h2, h => by
    rw [countL] at h ⊢
    by_cases hn : n ≤ most
    · rw [if_pos hn] at h ⊢
      have hb := countF_bd k (most - n) (by omega)
      have hg := countL_ge ks most (n + countF k (most - n)) (by omega) (by omega) (by omega)
      have hk := countF_eq k (most - n) (by omega) (by omega)
      rw [countL_eq ks most (n + countF k (most - n)) h0 (by omega) (by omega) h, hk, Fo.sizeL]
      omega
    · rw [if_neg hn] at h
      omega
end

theorem smallF_size {f : Fo} {most : Nat} (h : smallF f most = true) : f.size ≤ most := by
  unfold smallF at h
  have h1 := of_decide_eq_true h
  have := countF_eq f most (by omega) h1
  omega

theorem fewL_parts {d : List Fa} {ps : List Pv} {n : Nat} (h : fewL d ps n = true) : ps.length ≤ n ∧ (∀ p ∈ ps, p.except.length ≤ 40) ∧ (∀ p ∈ ps, p.cond.size ≤ 250) := by
  unfold fewL at h
  simp only [Bool.and_eq_true, decide_eq_true_eq, List.all_eq_true] at h
  obtain ⟨⟨h1, _⟩, h3⟩ := h
  refine ⟨by omega, fun p hp => ?_, fun p hp => ?_⟩
  · have := h3 p hp
    unfold fewP at this
    simp only [Bool.and_eq_true, decide_eq_true_eq] at this
    exact Nat.le_trans this.1.1.1.2 (by decide)
  · have := h3 p hp
    unfold fewP at this
    simp only [Bool.and_eq_true, decide_eq_true_eq] at this
    exact smallF_size (most := 250) this.1.1.1.1
theorem fewL_exc {d : List Fa} {ps : List Pv} {n : Nat} (h : fewL d ps n = true) : (∀ p ∈ ps, p.except.length ≤ 30) ∧ (∀ p ∈ ps, p.id.size ≤ 100) := by
  unfold fewL at h
  simp only [Bool.and_eq_true, decide_eq_true_eq, List.all_eq_true] at h
  obtain ⟨⟨h1, _⟩, h3⟩ := h
  refine ⟨fun p hp => ?_, fun p hp => ?_⟩
  · have := h3 p hp
    unfold fewP at this
    simp only [Bool.and_eq_true, decide_eq_true_eq] at this
    exact this.1.1.1.2
  · have := h3 p hp
    unfold fewP at this
    simp only [Bool.and_eq_true, decide_eq_true_eq] at this
    exact this.1.1.2

end Go.Proofs.YtihpoecdnchioaaGreatDoor

namespace Go.Proofs.YtihpoecdnchioaaGreatDoor
open Go.RowKit Tj

theorem idAt_inj {ps : List Pv} (hn : (ps.map Pv.id).Nodup) {i k : Nat} (hi : i < ps.length) (hk : k < ps.length) (h : idAt ps i = idAt ps k) : i = k := by
  rw [idAt_eq hi, idAt_eq hk] at h
  have h1 : (ps.map Pv.id)[i]'(by simpa using hi) = (ps.map Pv.id)[k]'(by simpa using hk) := by simpa using h
  exact (List.getElem_inj hn).1 h1

theorem mem_ids {ps : List Pv} (hn : (ps.map Pv.id).Nodup) (l : List Nat) (hl : ∀ x ∈ l, x < ps.length) (i : Nat) (hi : i < ps.length) : idAt ps i ∈ l.map (idAt ps) ↔ i ∈ l := by
  constructor
  · intro h
    obtain ⟨k, hk, e⟩ := List.mem_map.1 h
    rwa [← idAt_inj hn (hl k hk) hi e]
  · intro h; exact List.mem_map.2 ⟨i, h, rfl⟩

theorem mem_applied {d : List Fa} {ps : List Pv} {c : List Int} (hn : (ps.map Pv.id).Nodup) (i : Nat) (hi : i < ps.length) : idAt ps i ∈ appliedL d ps c ↔ apA d ps c (rowsOf ps) i = true := by
  unfold appliedL
  rw [mem_ids hn _ (fun x hx => List.mem_range.1 (List.mem_filter.1 hx).1) i hi, List.mem_filter, List.mem_range]
  exact ⟨fun h => h.2, fun h => ⟨hi, h⟩⟩

/-- of those that hold one applies -/
theorem some_applies {d : List Fa} {ps : List Pv} {c : List Int} (hl : ∀ k, ∀ x ∈ (rowsOf ps).getD k [], x < ps.length) (hc : circS (eB (edg (rowsOf ps))) ps.length = []) :
    (∃ i, ∃ h : i < ps.length, holdsF ps[i].cond d c [] = true) ↔ appliedL d ps c ≠ [] := by
  obtain ⟨rk, _, h2⟩ := rank_le (G := edg (rowsOf ps)) hl hc
  have key : ∀ N i, rk i < N → ∀ h : i < ps.length, holdsF ps[i].cond d c [] = true → ∃ k, k < ps.length ∧ apA d ps c (rowsOf ps) k = true := by
    intro N
    induction N with
    | zero => intro i h; omega
    | succ N ih =>
      intro i hi h hh
      have he := apA_eq (d := d) (c := c) hl hc i h
      rw [hh, Bool.true_and] at he
      cases ha : ((rowsOf ps).getD i []).any (apA d ps c (rowsOf ps)) with
      | false => rw [ha] at he; exact ⟨i, h, by rw [he]; rfl⟩
      | true =>
        obtain ⟨y, hy, hay⟩ := List.any_eq_true.1 ha
        exact ⟨y, hl i y hy, hay⟩
  constructor
  · rintro ⟨i, h, hh⟩ e
    obtain ⟨k, hk, hak⟩ := key (rk i + 1) i (by omega) h hh
    have : idAt ps k ∈ appliedL d ps c := List.mem_map.2 ⟨k, List.mem_filter.2 ⟨List.mem_range.2 hk, hak⟩, rfl⟩
    rw [e] at this
    cases this
  · intro hne
    cases hA : appliedL d ps c with
    | nil => exact absurd hA hne
    | cons x l =>
      have : x ∈ appliedL d ps c := by rw [hA]; simp
      obtain ⟨k, hk, _⟩ := List.mem_map.1 this
      obtain ⟨hk1, hk2⟩ := List.mem_filter.1 hk
      have hk1 := List.mem_range.1 hk1
      have he := apA_eq (d := d) (c := c) hl hc k hk1
      rw [hk2] at he
      exact ⟨k, hk1, by rw [eq_comm, Bool.and_eq_true] at he; exact he.1⟩

end Go.Proofs.YtihpoecdnchioaaGreatDoor

namespace Go.Proofs.YtihpoecdnchioaaGreatDoor
open Go.RowKit Tj

theorem inB_iff (l : List ByteArray) (s : ByteArray) : inB l s = true ↔ s ∈ l := by
  unfold inB
  rw [List.any_eq_true]
  constructor
  · rintro ⟨x, hx, h⟩; rw [eqB_iff] at h; exact h ▸ hx
  · intro h; exact ⟨s, h, (eqB_iff s s).2 rfl⟩

theorem sameB_iff : ∀ (l m : List ByteArray), sameB l m = true ↔ l = m
  | [], [] => by simp [sameB]
  | [], b :: m => by simp [sameB]
  | a :: l, [] => by simp [sameB]
  | a :: l, b :: m => by rw [sameB, Bool.and_eq_true, eqB_iff, sameB_iff l m, List.cons.injEq]

theorem sameB_self (l : List ByteArray) : sameB l l = true := (sameB_iff l l).2 rfl

variable {d : List Fa} {ps : List Pv} {c : List Int}

theorem ask_parts (h0 : askE d ps c = 0) : (ps.map Pv.id).Nodup ∧ (∀ k, ∀ x ∈ (rowsOf ps).getD k [], x < ps.length) ∧ circS (eB (edg (rowsOf ps))) ps.length = [] := by
  obtain ⟨h1, _, _, h2⟩ := askE_zero h0
  have hn := (okP_iff ps).1 h1
  exact ⟨hn, fun k => rowsOf_lt hn k, h2⟩

theorem at_lookup (hn : (ps.map Pv.id).Nodup) (i : Nat) (hi : i < ps.length) : (atK (ps.map Pv.id) ps.length).lookup ps[i].id = some (i : Int) := by
  have h := (atK_nodup hn ps[i].id i).2 (by rw [List.getElem?_map, List.getElem?_eq_getElem hi]; rfl)
  rwa [List.length_map] at h

theorem dec_at (h0 : askE d ps c = 0) (i : Nat) (hi : i < ps.length) :
    blkE d ps c ps[i].id = 0 ∧ blkL d ps c ps[i].id = (((rowsOf ps).getD i []).filter (apA d ps c (rowsOf ps))).map (idAt ps) := by
  obtain ⟨hn, _, _⟩ := ask_parts h0
  have hl := at_lookup hn i hi
  constructor
  · unfold blkE; rw [if_pos h0, hl]; rfl
  · unfold blkL; rw [hl]; simp

theorem in_applied (h0 : askE d ps c = 0) (i : Nat) (hi : i < ps.length) : inB (appliedL d ps c) ps[i].id = apA d ps c (rowsOf ps) i := by
  obtain ⟨hn, _, _⟩ := ask_parts h0
  rw [Bool.eq_iff_iff, inB_iff, ← idAt_eq hi]
  exact mem_applied hn i hi

/-- it applies just if its condition holds and Blocked returns none -/
theorem dec_applies (h0 : askE d ps c = 0) (i : Nat) (hi : i < ps.length) :
    inB (appliedL d ps c) ps[i].id = (holdsF ps[i].cond d c [] && decide ((blkL d ps c ps[i].id).length = 0)) := by
  obtain ⟨hn, hl, hc⟩ := ask_parts h0
  rw [in_applied h0 i hi, apA_eq hl hc i hi, (dec_at h0 i hi).2]
  congr 1
  rw [Bool.eq_iff_iff, decide_eq_true_eq, List.length_map, Bool.not_eq_true', List.any_eq_false, List.length_eq_zero_iff, List.filter_eq_nil_iff]

/-- what Blocked returns applies and excepts it -/
theorem dec_blk (h0 : askE d ps c = 0) (i k : Nat) (hi : i < ps.length) (hk : k < ps.length) :
    inB (blkL d ps c ps[i].id) ps[k].id = (inB (appliedL d ps c) ps[k].id && inB ps[k].except ps[i].id) := by
  obtain ⟨hn, hl, hc⟩ := ask_parts h0
  rw [in_applied h0 k hk, (dec_at h0 i hi).2, Bool.eq_iff_iff, inB_iff, ← idAt_eq hk, mem_ids hn _ (fun x hx => hl i x (List.mem_filter.1 hx).1) k hk, List.mem_filter, rowsOf_get hn i hi, List.mem_filter, Bool.and_eq_true, List.mem_range]
  have e : (ps.map Pv.except).getD k [] = ps[k].except := by simp [List.getD_eq_getElem?_getD, hk]
  rw [e]
  constructor
  · rintro ⟨⟨_, h1⟩, h2⟩; exact ⟨h2, h1⟩
  · rintro ⟨h2, h1⟩; exact ⟨⟨hk, h1⟩, h2⟩

theorem dec_some (h0 : askE d ps c = 0) : (ps.any fun p => holdsF p.cond d c []) = decide (0 < (appliedL d ps c).length) := by
  obtain ⟨hn, hl, hc⟩ := ask_parts h0
  have h := some_applies (d := d) (c := c) hl hc
  rw [Bool.eq_iff_iff, decide_eq_true_eq, List.length_pos_iff, ← h, List.any_eq_true]
  constructor
  · rintro ⟨p, hp, hh⟩
    obtain ⟨i, hi, rfl⟩ := List.getElem_of_mem hp
    exact ⟨i, hi, hh⟩
  · rintro ⟨i, hi, hh⟩
    exact ⟨ps[i], List.getElem_mem hi, hh⟩

theorem any_take {α : Type} (p : α → Bool) (l : List α) (k : Nat) (h : k < l.length) : (l.take (k + 1)).any p = ((l.take k).any p || p l[k]) := by
  rw [List.take_succ_eq_append_getElem h, List.any_append, List.any_cons, List.any_nil, Bool.or_false]

end Go.Proofs.YtihpoecdnchioaaGreatDoor
