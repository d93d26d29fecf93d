/- The walk of law14.NormFree. No conditions. -/
import Derived.Test.YtihpoecdnchioaaGreatDoorHead
import Derived.Test.YtihpoecdnchioaaGreatDoorPl14
import Derived.Test.YtihpoecdnchioaaGreatDoorTurn
import Derived.Maps.AppendAt
import Derived.BigQuiet
namespace Go.Proofs.YtihpoecdnchioaaGreatDoor
open Go.RowKit Tj

/-- the Ids of the first k provisions whose conditions hold -/
def wantL (d : List Fa) (ps : List Pv) (c : List Int) (k : Nat) : List ByteArray := ((ps.take k).filter fun p => holdsF p.cond d c []).map Pv.id
theorem wantL_succ (d : List Fa) (ps : List Pv) (c : List Int) (k : Nat) (h : k < ps.length) : wantL d ps c (k + 1) = wantL d ps c k ++ if holdsF ps[k].cond d c [] then [ps[k].id] else [] := by
  unfold wantL
  rw [List.take_succ_eq_append_getElem h, List.filter_append, List.map_append]
  congr 1
  cases hh : holdsF ps[k].cond d c [] <;> simp [hh]
theorem wantL_len (d : List Fa) (ps : List Pv) (c : List Int) (k : Nat) : (wantL d ps c k).length ≤ k := by
  unfold wantL
  rw [List.length_map]
  have h1 := List.length_filter_le (fun p : Pv => holdsF p.cond d c []) (ps.take k)
  have h2 := List.length_take_le k ps
  omega

/-- the cells of a provision without its exceptions -/
theorem bare_cells (p : Pv) (ak : Option Addr) (ck : Nat) (ae : Option Addr) (ce : Nat) : pvC (bareP p) ak ck none 0 = (pvC p ak ck ae ce).set 10 (.slice none 0 0) := rfl

theorem nine_pv : (9 : Nat) ≠ 49 := by decide
theorem keep_row {wy w8 : World} {base1 base2 e1 e2 s1 s2 n1 n2 : Nat} {v1 v2 : Value} {x1 x2 : List Value} {o : Obj} (h1 : wy.ownsRow base1 e1 s1 v1 n1 x1) (h2 : wy.ownsRow base2 e2 s2 v2 n2 x2) (he : e1 ≠ e2) (hg : (wy.alloc o).grownBy w8 v2.ownBlock)
    (a : Addr) (u : Value) (ha : a.block < base1) : (w8.setCell a u).ownsRow base1 e1 s1 v1 n1 x1 :=
  own_struck ((h1.alloc o).kept hg (own_types (h1.alloc o) (h2.alloc o) he)) a u (fun g e => by have := (h1.lt g e).1; omega)
/-- a row of strings has grown -/
theorem LawB.grown2 {w wb W w9 : World} {u1 bv : Value} {qs : List Pv} {xs : List PvA} (h : LawB w wb W u1 qs bv xs) {base e s n : Nat} {v : Value} {ys : List Value} {o : Obj} (hw : W.ownsRow base e s v n ys) (he : e ≠ 49) (hg : (W.alloc o).grownBy w9 v.ownBlock)
    (hr : ∀ g, v.ownBlock = some g → wb.heap.size < g) : LawB w wb w9 u1 qs bv xs :=
  (h.below ((Below.refl _ _).alloc (Nat.le_refl _) o)).grown hg hr (own_types (h.row.alloc o) (hw.alloc o) (Ne.symm he))

theorem in_qf {W : World} {B : Nat} {l : List ByteArray} {s : ByteArray} {v : Value} {b : Bool} (h : StrsIn W B l v) (hb : inB l s = b) (q : Nat) : Calls Tryz.prog 21 #[v, .string s] (W.drewN q) fun e w' => e = .returned (.bool b) ∧ ∃ n, w' = (W.drewN q).drewN n := by
  refine (in_any l s v (W.drewN q) B (h.below (World.drewN_below _ _ _))).mono ?_
  rintro e w' ⟨rfl, rfl⟩
  exact ⟨by rw [hb], 0, rfl⟩

section
set_option maxRecDepth 100000 in
set_option maxHeartbeats 8000000 in
theorem normFree_any {d : List Fa} {ps : List Pv} {c : List Int} {v cv : Value} (w : World) (hl : LawIn w w.heap.size d ps v) (hc : IntsIn w w.heap.size c cv) :
    Calls Tryz.prog 9 #[v, cv] w fun e w' => e = .returned (.bool true) ∧ Below w.heap.size w w' := by
  have hl0 := hl
  obtain ⟨u1, u2, asn, ns, cs, rfl, hd, hp⟩ := hl
  obtain ⟨ad, cd, rfl, d1, d2, _⟩ := SlIn.shape hd
  obtain ⟨ap, cp, rfl, p1, p2, _⟩ := SlIn.shape hp
  have hc0 := hc
  obtain ⟨ac, cc, rfl, c1, c2, _⟩ := SlIn.shape hc
  unfold maxLen at p2
  have hbw : Below w.heap.size w (w.alloc (.cells #[.slice ad d.length cd, .slice ap ps.length cp, .slice asn ns cs] 28)) := (Below.refl _ _).alloc (Nat.le_refl _) _
  have K0 := Blk.new w 28 #[.slice ad d.length cd, .slice ap ps.length cp, .slice asn ns cs]
  have x0 : (w.alloc (.cells #[.slice ad d.length cd, .slice ap ps.length cp, .slice asn ns cs] 28)).cell? ⟨w.heap.size, 0, none⟩ = some (.slice ad d.length cd) := K0.cell 0
  have x1 : (w.alloc (.cells #[.slice ad d.length cd, .slice ap ps.length cp, .slice asn ns cs] 28)).cell? ⟨w.heap.size, 1, none⟩ = some (.slice ap ps.length cp) := K0.cell 1
  have x2 : (w.alloc (.cells #[.slice ad d.length cd, .slice ap ps.length cp, .slice asn ns cs] 28)).cell? ⟨w.heap.size, 2, none⟩ = some (.slice asn ns cs) := K0.cell 2
  have HBW := Lib.hid hbw
  have HFEW := Lib.hid (fun W (hb : Below w.heap.size w W) => few_any d ps 40 _ W w.heap.size (by decide) (by decide) hb.size (hl0.below hb))
  cases hf : fewL d ps 40 with
  | false =>
    rw [hf] at HFEW
    clear hl0 hd hp hc hc0 hbw K0 hf
    go_enter Tryz.func9, Tryz.ntmps9
    go_wp2_with (first
      | (go_at_call 10; refine (head_any _).mono ?_; rintro e w1 ⟨rfl, hb1⟩; have y0 := (hb1.cell (p := ⟨w.heap.size, 0, none⟩) (by simp)).trans x0; have y1 := (hb1.cell (p := ⟨w.heap.size, 1, none⟩) (by simp)).trans x1; have y2 := (hb1.cell (p := ⟨w.heap.size, 2, none⟩) (by simp)).trans x2; have HB1 := Lib.hid (HBW.out.trans (hb1.mono (by simp))); have hz1 := hb1.size; simp only [World.size_alloc] at hz1; clear hb1)
      | (go_at_call 11; refine (HFEW.out _ HB1.out).mono ?_; rintro e w2 ⟨rfl, hb2⟩; have z0 := (hb2.cell (p := ⟨w.heap.size, 0, none⟩) (by simp; omega)).trans y0; have z1 := (hb2.cell (p := ⟨w.heap.size, 1, none⟩) (by simp; omega)).trans y1; have z2 := (hb2.cell (p := ⟨w.heap.size, 2, none⟩) (by simp; omega)).trans y2; have HB2 := Lib.hid (HB1.out.trans (hb2.mono (by omega))); have hz2 := hb2.size; clear hb2))
    go_ret
    exact ⟨rfl, HB2.out⟩
  | true =>
    obtain ⟨hn, hex, hsz⟩ := fewL_parts (n := 40) hf
    have hn2 : ps.length ≤ 1000 := by omega
    have hsz2 : ∀ p ∈ ps, p.cond.size ≤ 1000000 := fun p hp => Nat.le_trans (hsz p hp) (by decide)
    rw [hf] at HFEW
    have HAPP := Lib.hid (fun W (hb : Below w.heap.size w W) => appl_any d ps c _ _ W w.heap.size hn2 hb.size (hl0.below hb) hex hsz2 (hc0.below hb))
    have HFREE := Lib.hid (fun (h0 : askE d ps c = 0) i (hi : i < ps.length) (hx : (ps.any fun q => inB q.except ps[i].id) = false) => (show inB (if askE d ps c = 0 then appliedL d ps c else []) ps[i].id = holdsF ps[i].cond d c [] by rw [if_pos h0]; exact free_applies h0 i hi hx))
    have HBARE : Hid ((askE d (ps.map bareP) c = 0 ∨ askE d (ps.map bareP) c = 1 ∧ askE d ps c = 1) ∧ (askE d (ps.map bareP) c = 0 → fitsD d c = true ∧ (if askE d (ps.map bareP) c = 0 then appliedL d (ps.map bareP) c else []) = wantL d ps c ps.length)) := by
      have h := bare_law (d := d) (ps := ps) (c := c)
      refine ⟨h.1, fun h0 => ⟨(h.2 h0).1, ?_⟩⟩
      rw [if_pos h0, (h.2 h0).2]
      unfold wantL
      rw [List.take_length]
    have HBAPP := Lib.hid (fun (v' cv' : Value) W (B : Nat) (hB : B ≤ W.heap.size) (hl' : LawIn W B d (ps.map bareP) v') (hc' : IntsIn W B c cv') =>
      appl_any d (ps.map bareP) c v' cv' W B (by rw [List.length_map]; exact hn2) hB hl' (fun p hp => by obtain ⟨q, _, rfl⟩ := List.mem_map.1 hp; exact Nat.zero_le _) (fun p hp => by obtain ⟨q, hq, rfl⟩ := List.mem_map.1 hp; exact hsz2 q hq) hc')
    have HD := Lib.hid hd
    have HDI : Hid (DomIn w w.heap.size d (.agg #[.slice ad d.length cd])) := ⟨_, rfl, hd⟩
    have HC := Lib.hid hc0
    have HP := Lib.hid hp
    have HSZ := Lib.hid hsz2
    obtain ⟨i9, hi9, hx9, hy9, hz9⟩ := info_parts strInfo
    obtain ⟨ip, zp, hip, hsp_, hzp, hzc, hbp⟩ := pv_info
    generalize (if askE d (ps.map bareP) c = 0 then appliedL d (ps.map bareP) c else []) = bl at *
    generalize askE d (ps.map bareP) c = eb at *
    generalize (if askE d ps c = 0 then appliedL d ps c else []) = al at *
    generalize askE d ps c = er at *
    clear hl0 hd hp hc hc0 hbw K0 hf hex hsz hsz2
    go_enter Tryz.func9, Tryz.ntmps9
    go_wp2_with (first
      | (go_at_call 10; refine (head_any _).mono ?_; rintro e w1 ⟨rfl, hb1⟩; have y0 := (hb1.cell (p := ⟨w.heap.size, 0, none⟩) (by simp)).trans x0; have y1 := (hb1.cell (p := ⟨w.heap.size, 1, none⟩) (by simp)).trans x1; have y2 := (hb1.cell (p := ⟨w.heap.size, 2, none⟩) (by simp)).trans x2; have HB1 := Lib.hid (HBW.out.trans (hb1.mono (by simp))); have hz1 := hb1.size; simp only [World.size_alloc] at hz1; clear hb1)
      | (go_at_call 11; refine (HFEW.out _ HB1.out).mono ?_; rintro e w2 ⟨rfl, hb2⟩; have z0 := (hb2.cell (p := ⟨w.heap.size, 0, none⟩) (by simp; omega)).trans y0; have z1 := (hb2.cell (p := ⟨w.heap.size, 1, none⟩) (by simp; omega)).trans y1; have z2 := (hb2.cell (p := ⟨w.heap.size, 2, none⟩) (by simp; omega)).trans y2; have HB2 := Lib.hid (HB1.out.trans (hb2.mono (by omega))); have hz2 := hb2.size; clear hb2)
      | (go_at_call 12; refine (HAPP.out _ HB2.out).mono ?_; rintro e w3 ⟨u, rfl, hb3, hu⟩; obtain ⟨aa, ca, rfl, a1, a2, _⟩ := SlIn.shape hu; have t0 := (hb3.cell (p := ⟨w.heap.size, 0, none⟩) (by simp; omega)).trans z0; have t1 := (hb3.cell (p := ⟨w.heap.size, 1, none⟩) (by simp; omega)).trans z1; have t2 := (hb3.cell (p := ⟨w.heap.size, 2, none⟩) (by simp; omega)).trans z2; have HB3 := Lib.hid (HB2.out.trans (hb3.mono (by omega))); have hz3 := hb3.size; have HAL := Lib.hid hu; clear hb3 hu))
    clear x0 x1 x2 y0 y1 y2 z0 z1 z2
    go_loopw [9, 10] (fun wv iv wr => ∃ (k : Nat) (bv : Value) (xs : List PvA), k ≤ ps.length ∧ iv = .int .i64 k ∧ Hid (wr.ownsRow (w3.heap.size + 1) 9 1 wv (wantL d ps c k).length ((wantL d ps c k).map Value.string)) ∧
      Hid (LawB w w3 wr (.slice ad d.length cd) ((ps.take k).map bareP) bv xs)) (fun _ iv _ => ps.length - (intOf iv).toNat)
    case atStart => exact ⟨0, .slice none 0 0, [], Nat.zero_le _, rfl, ⟨rfl, .inl ⟨rfl, rfl⟩⟩, LawB.start w w3 _⟩
    case round =>
      rename World => wq
      obtain ⟨k, bv, xs, hk, rfl, hwr, hlb⟩ := hrel
      obtain ⟨ba, bn, bc, rfl⟩ := own_shape hlb.out.row
      have hwl := wantL_len d ps c k
      have hxl : xs.length = k := by have := hlb.out.len; rw [List.length_map, List.length_take] at this; omega
      have hxl2 : xs.length ≤ 40 := by omega
      clear hxl
      have hlq := hlb.out.lt
      have b0 : Below w.heap.size w wq := HB3.out.trans (hlb.out.bel.mono (by omega))
      have q0 := (hlb.out.bel.cell (p := ⟨w.heap.size, 0, none⟩) (by simp; omega)).trans t0
      have q1 := (hlb.out.bel.cell (p := ⟨w.heap.size, 1, none⟩) (by simp; omega)).trans t1
      by_cases hlt : k < ps.length
      · obtain ⟨b, off, rfl, hbB, ak, ck, ae, ce, hr, hf, he, hzz⟩ := SlIn.at HP.out k hlt
        have hrq : wq.rangeAt b (off + k * 23) (pvC _ ak ck ae ce) := fun j v hv => (b0.cell (p := ⟨b, off + k * 23 + j, none⟩) hbB).trans (hr j v hv)
        have hfree := fun h0 hx => HFREE.out h0 k hlt hx
        have hws := wantL_succ d ps c k hlt
        have hbx : (ps.take (k + 1)).map bareP = (ps.take k).map bareP ++ [bareP ps[k]] := by rw [List.take_succ_eq_append_getElem hlt, List.map_append]; rfl
        have hsp := HSZ.out ps[k] (List.getElem_mem hlt)
        have hok : PvA.Ok w w.heap.size ⟨bareP ps[k], ak, ck, none, 0⟩ := ⟨hf, ⟨none, 0, rfl, Nat.le_refl _, Nat.zero_le _, fun e => absurd rfl e⟩, hzz⟩
        generalize ps[k] = p at *
        have hho : ∀ W, Below w.heap.size w W → Calls Tryz.prog 20 #[.agg #[.int .i64 p.cond.op, .string p.cond.name, .int .i64 p.cond.cmp, .int .i64 p.cond.n, .slice ak p.cond.kids.length ck], .agg #[.slice ad d.length cd], .slice ac c.length cc, .slice none 0 0] W fun e w' => e = .returned (.bool (holdsF p.cond d c [])) ∧ Below W.heap.size W w' := fun W hb =>
          holdsP_any p.cond d c [] _ _ _ _ W w.heap.size hsp hb.size (hf.below hb) (HDI.out.below hb) (HC.out.below hb) ⟨none, 0, rfl, Nat.le_refl _, Nat.zero_le _, fun e => absurd rfl e⟩
        have hany := fun j (hj : j < ps.length) => any_take (fun q => inB q.except p.id) ps j hj
        generalize holdsF p.cond d c [] = ho at *
        generalize (ps.take k).map bareP = qs at *
        generalize wantL d ps c k = wl at *
        have hk0 : (0 : Int) ≤ (k : Int) := Int.natCast_nonneg _
        have hk1 : (k : Int) < (ps.length : Int) := by omega
        have HB0 := Lib.hid b0
        have HWR := hwr
        have HLB := hlb
        have HNW := Lib.hid hwr.out.lt
        have HNB := Lib.hid hlb.out.own_lt
        have HRG := Lib.hid hrq
        have HHO := Lib.hid hho
        have HFR := Lib.hid hfree
        have HWS := Lib.hid hws
        have HBX := Lib.hid hbx
        have HOK := Lib.hid hok
        have HANY := Lib.hid hany
        clear hr hrq hf he hzz b0 hwr hlb hho hfree hws hbx hsp hok hany t0 t1 t2
        go_wp2_with (first
          | ((with_reducible show wpList _ _ _ (⟨_, Op.load 49 (.tmp 41), _, _, _, _⟩ :: _) _ _); refine wpList_load_pv rfl (.tmp 41) rfl rfl p ak ck ae ce HRG.out Tryz.underlying49 rfl Pv.info ?_)
          | (((with_reducible show wpList _ _ _ (⟨_, Op.store 49 (.tmp 11) (.tmp 42), _, _, _, _⟩ :: _) _ _); refine wpList_store_pv rfl (.tmp 11) (.tmp 42) rfl p ak ck ae ce rfl rfl ?hs1 Pv.info ?_; (case hs1 => rfl); intro W1 hb1 hz1 hr1 hf1; have e1_0 := hr1 0 _ rfl; have e1_5 := hr1 5 _ rfl; have e1_6 := hr1 6 _ rfl; have e1_7 := hr1 7 _ rfl; have e1_8 := hr1 8 _ rfl; have e1_9 := hr1 9 _ rfl; have HR1 := Lib.hid hr1; clear hr1); have r0 := (hb1.cell (p := ⟨w.heap.size, 0, none⟩) (by simp; omega)).trans q0; have r1 := (hb1.cell (p := ⟨w.heap.size, 1, none⟩) (by simp; omega)).trans q1))
        have HFZ1 := Lib.hid hf1
        have HB1' := Lib.hid hb1
        clear q0 q1 hf1 hb1
        go_loopw [12, 13] (fun xv jv wr => ∃ j : Nat, j ≤ ps.length ∧ jv = .int .i64 j ∧ xv = .bool ((ps.take j).any fun q => inB q.except p.id) ∧ Hid (∃ n, wr = W1.drewN n)) (fun _ jv _ => ps.length - (intOf jv).toNat)
        case atStart => exact ⟨0, Nat.zero_le _, rfl, rfl, 0, rfl⟩
        case round =>
          obtain ⟨j, hj, rfl, rfl, hwz⟩ := hrel
          have bz : Below W1.heap.size W1 wr := by obtain ⟨n, rfl⟩ := hwz.out; exact World.drewN_below _ _ _
          have hzs : wr.heap.size = W1.heap.size := by obtain ⟨n, rfl⟩ := hwz.out; rfl
          have m0 := (bz.cell (p := ⟨w.heap.size, 0, none⟩) (by simp; omega)).trans r0
          have m1 := (bz.cell (p := ⟨w.heap.size, 1, none⟩) (by simp; omega)).trans r1
          have mp := (bz.cell (p := ⟨wq.heap.size, 0, none⟩) (by simp; omega)).trans e1_0
          have hbw1 : Below w.heap.size w wr := (HB0.out.trans (HB1'.out.mono HB0.out.size)).trans (bz.mono (by have := HB0.out.size; omega))
          have HBW1 := Lib.hid hbw1
          have HWZ := hwz
          have HBZ := Lib.hid bz
          clear hwz bz r0 r1 hbw1
          by_cases hjl : j < ps.length
          · obtain ⟨_, hbB2, bk, ck2, be, ce2, hr2, _, he2, _⟩ := SlIn.get HP.out j hjl
            have hn := HANY.out j hjl
            generalize ps[j] = q at *
            have ej := (HBW1.out.cell (p := ⟨b, off + j * 23 + 10, none⟩) hbB2).trans (hr2 10 _ rfl)
            have hE := he2.below HBW1.out
            have hj0 : (0 : Int) ≤ (j : Int) := Int.natCast_nonneg _
            have hj1 : (j : Int) < (ps.length : Int) := by omega
            generalize (ps.take j).any (fun q => inB q.except p.id) = x at *
            clear hr2 he2
            cases x with
            | true =>
              have HN := Lib.hid hn
              clear hn hE
              go_wp2
              go_quiet (fail)
              go_wp2
              go_roundw
              case rel => exact ⟨j + 1, by omega, by go_num, by rw [HN.out]; rfl, drew_more HWZ.out⟩
              case measure => simp [intOf]; omega
            | false =>
              obtain ⟨xe, hxe⟩ : ∃ xe, inB q.except p.id = xe := ⟨_, rfl⟩
              rw [hxe] at hn
              have HN := Lib.hid hn
              have CE := fun n => Lib.hid (in_qf (s := p.id) hE hxe n)
              clear hn hE hxe
              cases xe with
              | false =>
                go_wp2
                go_quiet ((go_at_call 21; exact Calls.quiet_of (CE _).out))
                go_wp2
                go_roundw
                case rel => exact ⟨j + 1, by omega, by go_num, by rw [HN.out]; rfl, drew_more HWZ.out⟩
                case measure => simp [intOf]; omega
              | true =>
                go_wp2
                go_quiet ((go_at_call 21; exact Calls.quiet_of (CE _).out))
                go_wp2
                go_roundw
                case rel => exact ⟨j + 1, by omega, by go_num, by rw [HN.out]; rfl, drew_more HWZ.out⟩
                case measure => simp [intOf]; omega
          · have hjn : j = ps.length := by omega
            subst hjn
            rw [List.take_length]
            have hfr := HFR.out
            generalize (ps.any fun q => inB q.except p.id) = x at *
            have HFR2 := Lib.hid hfr
            have m5 := (HBZ.out.cell (p := ⟨wq.heap.size, 5, none⟩) (by simp; omega)).trans e1_5
            have m6 := (HBZ.out.cell (p := ⟨wq.heap.size, 6, none⟩) (by simp; omega)).trans e1_6
            have m7 := (HBZ.out.cell (p := ⟨wq.heap.size, 7, none⟩) (by simp; omega)).trans e1_7
            have m8 := (HBZ.out.cell (p := ⟨wq.heap.size, 8, none⟩) (by simp; omega)).trans e1_8
            have m9 := (HBZ.out.cell (p := ⟨wq.heap.size, 9, none⟩) (by simp; omega)).trans e1_9
            have HQZ : Hid (Below wq.heap.size wq wr) := HB1'.out.trans (HBZ.out.mono (by omega))
            have HRZ : Hid (wr.rangeAt wq.heap.size 0 (pvC p ak ck ae ce)) := range_block HR1.out (HBZ.out.block _ (by omega))
            have HFZ : Hid (∀ i, wr.frozen? ⟨wq.heap.size, i, none⟩ = false) := frozen_block HFZ1.out (HBZ.out.block _ (by omega))
            have hqz : wq.heap.size < wr.heap.size := by omega
            clear hfr hj hjl e1_0 e1_5 e1_6 e1_7 e1_8 e1_9 HR1 HFZ1 HBZ HWZ HB1'
            go_upto_region 17 with (go_at_call 20; refine (HHO.out _ HBW1.out).mono ?_; rintro e w6 ⟨rfl, hb6⟩; have HR6 := Lib.hid hb6; have HQ6 : Hid (Below wq.heap.size wq w6) := HQZ.out.trans (hb6.mono (by omega)); have lp := (hb6.cell (p := ⟨wq.heap.size, 0, none⟩) (by simp; omega)).trans mp; have hz6 := hb6.size; clear hb6)
            clear m0 mp m5 m6 m7 m8 m9
            go_cut [81] (fun s81 wx => s81 = .bool false ∧ wx = w6)
            case first =>
              have hin := in_any al p.id (.slice aa al.length ca) w6 _ (strs_up HAL.out (HLB.out.bel.trans (HQ6.out.mono (by omega))))
              by_cases hz : er = 0
              · subst hz
                cases x with
                | true =>
                  clear hin
                  go_wp2
                  go_meet
                  exact ⟨rfl, rfl⟩
                | false =>
                  rw [HFR2.out rfl rfl] at hin
                  have HI := Lib.hid hin
                  clear hin
                  cases ho with
                  | false =>
                    go_wp2_with (go_at_call 21; refine HI.out.mono ?_; rintro e w7 ⟨rfl, rfl⟩)
                    go_meet
                    exact ⟨rfl, rfl⟩
                  | true =>
                    go_wp2_with (go_at_call 21; refine HI.out.mono ?_; rintro e w7 ⟨rfl, rfl⟩)
                    go_meet
                    exact ⟨rfl, rfl⟩
              · have e0 : (er == 0) = false := by simpa using hz
                clear hin hz
                go_wp2
                go_meet
                exact ⟨rfl, rfl⟩
            case rest =>
              obtain ⟨rfl, rfl⟩ := hcut
              have HW6 := Lib.hid (own_under HWR.out HQ6.out)
              have HL6 := Lib.hid (HLB.out.below HQ6.out)
              have HP6 := Lib.hid (range_block HRZ.out (HR6.out.block _ hqz))
              have HZ6 := Lib.hid (frozen_block HFZ.out (HR6.out.block _ hqz))
              clear HRZ HFZ HR6 HWR HLB
              cases ho with
              | false =>
                have HW1 : Hid (World.ownsRow wc (w3.heap.size + 1) 9 1 u9 (wantL d ps c (k + 1)).length ((wantL d ps c (k + 1)).map Value.string)) := by
                  show World.ownsRow _ _ _ _ _ _ _
                  rw [show (wantL d ps c (k + 1)) = wl by rw [HWS.out]; simp]
                  exact HW6.out
                clear HWS HW6
                have c10 := HP6.out 10 _ rfl
                have f10 := HZ6.out 10
                rw [Nat.zero_add] at c10
                go_upto_region 22 with (fail)
                have HPY : Hid ((wc.setCell ⟨wq.heap.size, 10, none⟩ (.slice none 0 0)).rangeAt wq.heap.size 0 (pvC (bareP p) ak ck none 0)) := by
                  have h := range_set HP6.out (i := 10) (v := .slice none 0 0) (by rw [pvC_len]; decide)
                  rw [Nat.zero_add] at h
                  exact h
                have HLY := Lib.hid (HL6.out.struck ⟨wq.heap.size, 10, none⟩ (.slice none 0 0) (by show _ < wq.heap.size; omega) (fun g e => by have := HNB.out g e; show g ≠ wq.heap.size; omega))
                have HWY := Lib.hid (own_struck HW1.out ⟨wq.heap.size, 10, none⟩ (.slice none 0 0) (fun g e => by have := HNW.out g e; show g ≠ wq.heap.size; omega))
                clear c10 f10 lp HP6 HL6 HW1
                generalize wc.setCell ⟨wq.heap.size, 10, none⟩ (.slice none 0 0) = wy at *
                have y1 : wy.cell? ⟨w3.heap.size, 1, none⟩ = some (.slice ba bn bc) := HLY.out.blk.cell 1
                have hly := HLY.out.lt
                have HROWY : Hid (wy.ownsRow (w3.heap.size + 1) 49 23 (.slice ba bn bc) xs.length (xs.flatMap PvA.cells)) := HLY.out.row
                go_wp2_with (first
                  | ((with_reducible show wpList _ _ _ (⟨_, Op.load 49 (.tmp 11), _, _, _, _⟩ :: _) _ _); refine wpList_load_pv rfl (.tmp 11) rfl rfl (bareP p) ak ck none 0 HPY.out Tryz.underlying49 rfl Pv.info ?_)
                  | ((with_reducible show wpList _ _ _ (⟨_, Op.buildSlice 25 1 #[(0, .tmp 91)], _, _, _, _⟩ :: _) _ _); refine wpList_build_pv rfl (.tmp 91) rfl (bareP p) ak ck none 0 rfl ?_)
                  | (at_builtin; refine wpList_append_own_at _ (by rfl) (.tmp 90) (.tmp 92) 25 (by rfl) (w3.heap.size + 1) 49 ip zp 23 312 Tryz.underlying25 hip hzp hsp_ hbp hzc (by omega) (.slice ba bn bc) xs.length (xs.flatMap PvA.cells) (by rfl) (HROWY.out.alloc _) ⟨wy.heap.size, 0, none⟩ 1 1 (pvC (bareP p) ak ck none 0) (by rfl) (by rfl) (news_blk wy _ _) (pvC_ones _ _ _ _ _) (by unfold maxLen; omega) (by omega) (by simp; omega) ?_; intro v8 w8 hown8 hgrow8 hnil8 hat8; obtain ⟨g8, cap8, rfl⟩ := ownsRow_succ hown8; have hbb := (hgrow8.block w3.heap.size (by simp; omega) (fun e => by have := HLY.out.own_lt _ e.symm; omega)).trans (Below.heap_alloc wy (.cells (pvC (bareP p) ak ck none 0).toArray 49) _ hly); have s1 := (World.cell?_of_block (a := ⟨w3.heap.size, 1, none⟩) hbb).trans y1; have g1 := (World.frozen?_of_block (a := ⟨w3.heap.size, 1, none⟩) hbb).trans (HLY.out.blk.frozen 1); have HLN := Lib.hid (HLY.out.push ⟨bareP p, ak, ck, none, 0⟩ HOK.out hown8 hgrow8); have HWN : Hid (World.ownsRow (w8.setCell ⟨w3.heap.size, 1, none⟩ (.slice (some ⟨g8, 0, none⟩) (xs.length + 1) cap8)) (w3.heap.size + 1) 9 1 _ (wantL d ps c (k + 1)).length ((wantL d ps c (k + 1)).map Value.string)) := keep_row HWY.out HROWY.out nine_pv hgrow8 ⟨w3.heap.size, 1, none⟩ (.slice (some ⟨g8, 0, none⟩) (xs.length + 1) cap8) (Nat.lt_succ_self _); clear hown8 hgrow8 hnil8 hat8 hbb))
                go_roundw
                case rel => exact ⟨k + 1, .slice (some ⟨g8, 0, none⟩) (xs.length + 1) cap8, xs ++ [⟨bareP p, ak, ck, none, 0⟩], by omega, by go_num, HWN, by rw [HBX.out]; exact HLN⟩
                case measure => simp [intOf]; omega
              | true =>
                have HWL : Hid ((wantL d ps c (k + 1)) = wl ++ [p.id]) := by show _ = _; rw [HWS.out]; simp
                clear HWS
                go_upto_region 22 with (at_builtin; refine wpList_append_own_at _ rfl _ _ 32 rfl (w3.heap.size + 1) 9 i9 _ 1 16 Tryz.underlying32 hi9 hx9 hy9 hz9 rfl (by decide) _ wl.length _ rfl (HW6.out.alloc _) ⟨wc.heap.size, 0, none⟩ 1 1 [.string p.id] rfl rfl (cell_one_new _ _ _) (by simp [Value.oneCell']) (by unfold maxLen; omega) (by omega) (by simp; omega) ?_; intro v9 w9 hown9 hgrow9 hnil9 hat9; have HL9 := Lib.hid (HL6.out.grown2 HW6.out nine_pv hgrow9 (fun g e => by have := HNW.out g e; omega)); have HW9 : Hid (World.ownsRow w9 (w3.heap.size + 1) 9 1 v9 (wantL d ps c (k + 1)).length ((wantL d ps c (k + 1)).map Value.string)) := (by show World.ownsRow _ _ _ _ _ _ _; rw [HWL.out, List.length_append, List.map_append]; exact hown9); have hpb := (hgrow9.block wq.heap.size (by simp; omega) (fun e => by have := HNW.out _ e.symm; omega)).trans (Below.heap_alloc wc (.cells #[.string p.id] 9) _ (by omega)); have HP9 := Lib.hid (range_block HP6.out hpb); have HZ9 := Lib.hid (frozen_block HZ6.out hpb); have HN9 : Hid (∀ g, v9.ownBlock = some g → g ≠ wq.heap.size) := (fun g e => hat9.elim (fun h => by have := HNW.out g (h.symm.trans e); omega) (fun h => by have h2 := h.symm.trans e; simp at h2; omega)); have hs9 := hgrow9.size; simp only [World.size_alloc] at hs9; have c10 := HP9.out 10 _ rfl; have f10 := HZ9.out 10; rw [Nat.zero_add] at c10; clear hown9 hgrow9 hnil9 hat9 hpb)
                have HPY : Hid ((w9.setCell ⟨wq.heap.size, 10, none⟩ (.slice none 0 0)).rangeAt wq.heap.size 0 (pvC (bareP p) ak ck none 0)) := by
                  have h := range_set HP9.out (i := 10) (v := .slice none 0 0) (by rw [pvC_len]; decide)
                  rw [Nat.zero_add] at h
                  exact h
                have HLY := Lib.hid (HL9.out.struck ⟨wq.heap.size, 10, none⟩ (.slice none 0 0) (by show _ < wq.heap.size; omega) (fun g e => by have := HNB.out g e; show g ≠ wq.heap.size; omega))
                have HWY := Lib.hid (own_struck HW9.out ⟨wq.heap.size, 10, none⟩ (.slice none 0 0) HN9.out)
                clear c10 f10 lp HP9 HL9 HW9
                generalize w9.setCell ⟨wq.heap.size, 10, none⟩ (.slice none 0 0) = wy at *
                have y1 : wy.cell? ⟨w3.heap.size, 1, none⟩ = some (.slice ba bn bc) := HLY.out.blk.cell 1
                have hly := HLY.out.lt
                have HROWY : Hid (wy.ownsRow (w3.heap.size + 1) 49 23 (.slice ba bn bc) xs.length (xs.flatMap PvA.cells)) := HLY.out.row
                go_wp2_with (first
                  | ((with_reducible show wpList _ _ _ (⟨_, Op.load 49 (.tmp 11), _, _, _, _⟩ :: _) _ _); refine wpList_load_pv rfl (.tmp 11) rfl rfl (bareP p) ak ck none 0 HPY.out Tryz.underlying49 rfl Pv.info ?_)
                  | ((with_reducible show wpList _ _ _ (⟨_, Op.buildSlice 25 1 #[(0, .tmp 91)], _, _, _, _⟩ :: _) _ _); refine wpList_build_pv rfl (.tmp 91) rfl (bareP p) ak ck none 0 rfl ?_)
                  | (at_builtin; refine wpList_append_own_at _ (by rfl) (.tmp 90) (.tmp 92) 25 (by rfl) (w3.heap.size + 1) 49 ip zp 23 312 Tryz.underlying25 hip hzp hsp_ hbp hzc (by omega) (.slice ba bn bc) xs.length (xs.flatMap PvA.cells) (by rfl) (HROWY.out.alloc _) ⟨wy.heap.size, 0, none⟩ 1 1 (pvC (bareP p) ak ck none 0) (by rfl) (by rfl) (news_blk wy _ _) (pvC_ones _ _ _ _ _) (by unfold maxLen; omega) (by omega) (by simp; omega) ?_; intro v8 w8 hown8 hgrow8 hnil8 hat8; obtain ⟨g8, cap8, rfl⟩ := ownsRow_succ hown8; have hbb := (hgrow8.block w3.heap.size (by simp; omega) (fun e => by have := HLY.out.own_lt _ e.symm; omega)).trans (Below.heap_alloc wy (.cells (pvC (bareP p) ak ck none 0).toArray 49) _ hly); have s1 := (World.cell?_of_block (a := ⟨w3.heap.size, 1, none⟩) hbb).trans y1; have g1 := (World.frozen?_of_block (a := ⟨w3.heap.size, 1, none⟩) hbb).trans (HLY.out.blk.frozen 1); have HLN := Lib.hid (HLY.out.push ⟨bareP p, ak, ck, none, 0⟩ HOK.out hown8 hgrow8); have HWN : Hid (World.ownsRow (w8.setCell ⟨w3.heap.size, 1, none⟩ (.slice (some ⟨g8, 0, none⟩) (xs.length + 1) cap8)) (w3.heap.size + 1) 9 1 _ (wantL d ps c (k + 1)).length ((wantL d ps c (k + 1)).map Value.string)) := keep_row HWY.out HROWY.out nine_pv hgrow8 ⟨w3.heap.size, 1, none⟩ (.slice (some ⟨g8, 0, none⟩) (xs.length + 1) cap8) (Nat.lt_succ_self _); clear hown8 hgrow8 hnil8 hat8 hbb))
                go_roundw
                case rel => exact ⟨k + 1, .slice (some ⟨g8, 0, none⟩) (xs.length + 1) cap8, xs ++ [⟨bareP p, ak, ck, none, 0⟩], by omega, by go_num, HWN, by rw [HBX.out]; exact HLN⟩
                case measure => simp [intOf]; omega
      · have hkn : k = ps.length := by omega
        subst hkn
        rw [List.take_length] at hlb
        have HW := hwr
        have HLB := hlb
        have HLL := Lib.hid (hlb.out.law b0 HD.out)
        have HB0 := Lib.hid b0
        have HC0 := Lib.hid ((HC.out.below b0).mono (OneR.mono _) b0.size)
        have cb0 : wq.cell? ⟨w3.heap.size, 0, none⟩ = some (.slice ad d.length cd) := hlb.out.blk.cell 0
        have cb1 : wq.cell? ⟨w3.heap.size, 1, none⟩ = some (.slice ba bn bc) := hlb.out.blk.cell 1
        have cb2 : wq.cell? ⟨w3.heap.size, 2, none⟩ = some (.slice none 0 0) := hlb.out.blk.cell 2
        have HFIT := Lib.hid (fun W (hb : Below w.heap.size w W) => fits_any d c _ _ W w.heap.size hb.size (HDI.out.below hb) (HC.out.below hb))
        clear hwr hlb b0 hk hlt t0 t1 t2
        by_cases hz : eb = 0
        · subst hz
          obtain ⟨hfit, hbl⟩ := HBARE.out.2 rfl
          rw [hfit] at HFIT
          have HBL0 := Lib.hid hbl
          clear hfit hbl HBARE
          go_wp2_with (first
            | (go_at_call 12; refine (HBAPP.out _ _ _ _ (Nat.le_refl _) HLL.out HC0.out).mono ?_; rintro e w5 ⟨u5, rfl, hb5, hu5⟩; obtain ⟨ua, uc, rfl, _, _, _⟩ := SlIn.shape hu5; have n0 := (hb5.cell (p := ⟨w.heap.size, 0, none⟩) (by simp; omega)).trans q0; have HB5 := Lib.hid (HB0.out.trans (hb5.mono (by omega))); have HBL := Lib.hid hu5; have HW5 := Lib.hid (own_under HW.out hb5); clear hb5 hu5)
            | (go_at_call 26; refine (HFIT.out _ HB5.out).mono ?_; rintro e w7 ⟨rfl, hb7⟩; have HB7 := Lib.hid (HB5.out.trans (hb7.mono HB5.out.size)); have HBL7 := Lib.hid (strs_up HBL.out hb7); have HW7 := Lib.hid (own_strs (own_under HW5.out hb7) (Nat.le_refl _)); clear hb7)
            | (go_at_call 16; refine (same_eq HBL7.out HW7.out HBL0.out).mono ?_; rintro e w8 ⟨rfl, hb8⟩; have HB8 := Lib.hid (HB7.out.trans (hb8.mono HB7.out.size)); clear hb8))
          go_ret
          exact ⟨rfl, HB8.out⟩
        · obtain ⟨h1, h2⟩ := HBARE.out.1.resolve_left hz
          subst h1
          subst h2
          clear HBARE hz
          go_wp2_with (go_at_call 12; refine (HBAPP.out _ _ _ _ (Nat.le_refl _) HLL.out HC0.out).mono ?_; rintro e w5 ⟨u5, rfl, hb5, hu5⟩; obtain ⟨ua, uc, rfl, _, _, _⟩ := SlIn.shape hu5; have n0 := (hb5.cell (p := ⟨w.heap.size, 0, none⟩) (by simp; omega)).trans q0; have HB5 := Lib.hid (HB0.out.trans (hb5.mono (by omega))); have HBL := Lib.hid hu5; have HW5 := Lib.hid (own_under HW.out hb5); clear hb5 hu5)
          go_ret
          exact ⟨rfl, HB5.out⟩
end

end Go.Proofs.YtihpoecdnchioaaGreatDoor
