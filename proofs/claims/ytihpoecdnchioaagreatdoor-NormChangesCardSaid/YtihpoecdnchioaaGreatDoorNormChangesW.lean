/- The walk of law14.NormChanges. No conditions. -/
import Derived.Test.YtihpoecdnchioaaGreatDoorHead
import Derived.Test.YtihpoecdnchioaaGreatDoorPl14
import Derived.Test.YtihpoecdnchioaaGreatDoorPvSet
import Derived.Test.YtihpoecdnchioaaGreatDoorReach
import Derived.Maps.AppendAt
import Derived.BigQuiet
import Derived.Deep.RegionHeld3
namespace Go.Proofs.YtihpoecdnchioaaGreatDoor
open Go.RowKit Tj

/-- the cells of the two boxes: the law's, the formula's -/
def KpC (W : World) (H : Nat) (v0 v1 v2 f0 f1 f2 f3 f4 : Value) : Prop :=
  W.cell? ⟨H, 0, none⟩ = some v0 ∧ W.cell? ⟨H, 1, none⟩ = some v1 ∧ W.cell? ⟨H, 2, none⟩ = some v2 ∧ W.cell? ⟨H + 1, 0, none⟩ = some f0 ∧ W.cell? ⟨H + 1, 1, none⟩ = some f1 ∧ W.cell? ⟨H + 1, 2, none⟩ = some f2 ∧ W.cell? ⟨H + 1, 3, none⟩ = some f3 ∧ W.cell? ⟨H + 1, 4, none⟩ = some f4
theorem kp_up {W W' : World} {B H : Nat} {v0 v1 v2 f0 f1 f2 f3 f4 : Value} (h : KpC W H v0 v1 v2 f0 f1 f2 f3 f4) (hb : Below B W W') (hB : H + 1 < B) : KpC W' H v0 v1 v2 f0 f1 f2 f3 f4 := by
  obtain ⟨h0, h1, h2, h3, h4, h5, h6, h7⟩ := h
  exact ⟨(hb.cell (p := ⟨H, 0, none⟩) (by show H < B; omega)).trans h0, (hb.cell (p := ⟨H, 1, none⟩) (by show H < B; omega)).trans h1, (hb.cell (p := ⟨H, 2, none⟩) (by show H < B; omega)).trans h2, (hb.cell (p := ⟨H + 1, 0, none⟩) hB).trans h3, (hb.cell (p := ⟨H + 1, 1, none⟩) hB).trans h4, (hb.cell (p := ⟨H + 1, 2, none⟩) hB).trans h5, (hb.cell (p := ⟨H + 1, 3, none⟩) hB).trans h6, (hb.cell (p := ⟨H + 1, 4, none⟩) hB).trans h7⟩

/-- a row of no cells, just laid -/
theorem own_empty (W : World) (base : Nat) (e size : Nat) (hb : base ≤ W.heap.size) : (W.alloc (.cells #[] e)).ownsRow base e size (.slice (some ⟨W.heap.size, 0, none⟩) 0 0) 0 [] :=
  ⟨by simp, .inr ⟨W.heap.size, 0, #[], rfl, hb, World.alloc_heap_new W _, Nat.le_refl _, Nat.zero_le _, by simp, by simp⟩⟩
theorem own_pos {W : World} {base e size n : Nat} {v : Value} {xs : List Value} (h : W.ownsRow base e size v n xs) (hn : 0 < n) : ∃ g cap, v = .slice (some ⟨g, 0, none⟩) n cap ∧ base ≤ g ∧ g < W.heap.size ∧ n ≤ cap ∧ cap ≤ maxLen := by
  rcases h.2 with ⟨_, h0⟩ | ⟨g, cap, cur, hv, h1, h2, h3, h4, _⟩
  · omega
  · exact ⟨g, cap, hv, h1, (Array.getElem?_eq_some_iff.1 h2).1, h3, h4⟩

/-- a condition that is joined to a further one by or, its kids in a new block -/
theorem or_in {W : World} {B X : Nat} {p f : Fo} {t : TypeId} {ao bo : Option Addr} {c1 c2 : Nat} (hX : X < B) (hb : Blk W X t #[.int .i64 p.op, .string p.name, .int .i64 p.cmp, .int .i64 p.n, .slice ao p.kids.length c1, .int .i64 f.op, .string f.name, .int .i64 f.cmp, .int .i64 f.n, .slice bo f.kids.length c2])
    (hp : p.In W B (.agg #[.int .i64 p.op, .string p.name, .int .i64 p.cmp, .int .i64 p.n, .slice ao p.kids.length c1])) (hf : f.In W B (.agg #[.int .i64 f.op, .string f.name, .int .i64 f.cmp, .int .i64 f.n, .slice bo f.kids.length c2])) :
    (Fo.mk 7 ⟨#[]⟩ 0 0 [p, f]).In W B (.agg #[.int .i64 7, .string ⟨#[]⟩, .int .i64 0, .int .i64 0, .slice (some ⟨X, 0, none⟩) 2 2]) := by
  refine ⟨some ⟨X, 0, none⟩, 2, rfl, by unfold W64; omega, by unfold W64; omega, by unfold W64; omega, by decide, Nat.le_refl _, by decide, fun _ => ⟨X, 0, rfl, hX, ?_, ?_, trivial⟩⟩
  · exact ⟨_, _, _, _, _, hb.cell 0, hb.cell 1, hb.cell 2, hb.cell 3, hb.cell 4, hp⟩
  · exact ⟨_, _, _, _, _, hb.cell 5, hb.cell 6, hb.cell 7, hb.cell 8, hb.cell 9, hf⟩

/-- what the region reads -/
def S12 (W : World) (H M b o : Nat) (v1 m1 f0 f1 f2 f3 f4 x0 x1 x2 x3 x4 : Value) : Prop :=
  W.cell? ⟨H, 1, none⟩ = some v1 ∧ W.cell? ⟨M, 1, none⟩ = some m1 ∧ W.cell? ⟨H + 1, 0, none⟩ = some f0 ∧ W.cell? ⟨H + 1, 1, none⟩ = some f1 ∧ W.cell? ⟨H + 1, 2, none⟩ = some f2 ∧ W.cell? ⟨H + 1, 3, none⟩ = some f3 ∧ W.cell? ⟨H + 1, 4, none⟩ = some f4 ∧
    W.cell? ⟨b, o + 5, none⟩ = some x0 ∧ W.cell? ⟨b, o + 6, none⟩ = some x1 ∧ W.cell? ⟨b, o + 7, none⟩ = some x2 ∧ W.cell? ⟨b, o + 8, none⟩ = some x3 ∧ W.cell? ⟨b, o + 9, none⟩ = some x4
theorem s12_up {W W' : World} {B H M b o : Nat} {v1 m1 f0 f1 f2 f3 f4 x0 x1 x2 x3 x4 : Value} (h : S12 W H M b o v1 m1 f0 f1 f2 f3 f4 x0 x1 x2 x3 x4) (hb : Below B W W') (hH : H + 1 < B) (hM : M < B) (hbB : b < B) : S12 W' H M b o v1 m1 f0 f1 f2 f3 f4 x0 x1 x2 x3 x4 := by
  obtain ⟨h0, h1, h2, h3, h4, h5, h6, h7, h8, h9, h10, h11⟩ := h
  exact ⟨(hb.cell (p := ⟨H, 1, none⟩) (by show H < B; omega)).trans h0, (hb.cell (p := ⟨M, 1, none⟩) hM).trans h1, (hb.cell (p := ⟨H + 1, 0, none⟩) hH).trans h2, (hb.cell (p := ⟨H + 1, 1, none⟩) hH).trans h3, (hb.cell (p := ⟨H + 1, 2, none⟩) hH).trans h4, (hb.cell (p := ⟨H + 1, 3, none⟩) hH).trans h5, (hb.cell (p := ⟨H + 1, 4, none⟩) hH).trans h6,
    (hb.cell (p := ⟨b, o + 5, none⟩) hbB).trans h7, (hb.cell (p := ⟨b, o + 6, none⟩) hbB).trans h8, (hb.cell (p := ⟨b, o + 7, none⟩) hbB).trans h9, (hb.cell (p := ⟨b, o + 8, none⟩) hbB).trans h10, (hb.cell (p := ⟨b, o + 9, none⟩) hbB).trans h11⟩

theorem run_build_fo2 (a0 a1 a2 a3 a4 b0 b1 b2 b3 b4 : Value) (w : World) : (Instr.buildSlice 42 2 #[(0, .agg #[a0, a1, a2, a3, a4]), (1, .agg #[b0, b1, b2, b3, b4])]).run Tryz.prog w = .ok (.slice (some ⟨w.heap.size, 0, none⟩) 2 2) (w.alloc (.cells #[a0, a1, a2, a3, a4, b0, b1, b2, b3, b4] 44)) := by
  go_simp
theorem step_build_fo2 {ops : Array Oper} {o : Oper} {a : Act} {w : World} {K : Act → World → Prop} {Q : Exit → Act → World → Prop} {E : Prop} (hgd : o.guard = none) (x y : Operand) (ho : o.op = .buildSlice 42 2 #[(0, x), (1, y)]) (a0 a1 a2 a3 a4 b0 b1 b2 b3 b4 : Value)
    (hx : a.eval x = .agg #[a0, a1, a2, a3, a4]) (hy : a.eval y = .agg #[b0, b1, b2, b3, b4]) (H : Nat) (hH : w.heap.size = H) (h : K (a.put o.dst (.slice (some ⟨H, 0, none⟩) 2 2)) (w.alloc (.cells #[a0, a1, a2, a3, a4, b0, b1, b2, b3, b4] 44))) :
    if Region.wanted o (yielded ops a.tmps) = true then Oper.wp Tryz.prog o a w K Q else E := by
  rw [if_pos (by simp [Region.wanted, hgd])]
  subst hH
  unfold Oper.wp execOp
  simp only [ho, List.map_toArray, List.map_cons, List.map_nil, hx, hy, Sem.run_bind, run_build_fo2, Result.andThen_ok, Sem.run_pure]
  exact h

theorem more_change {w W : World} {B base X : Nat} {xs : List PvA} {i : Nat} {f : Fo} {fo : Option Addr} {fc : Nat} {v u1 : Value} {d : List Fa} {asn : Option Addr} {ns cs : Nat} (hi : i < xs.length)
    (hrow : W.ownsRow base 49 23 v xs.length ((xs.set i ⟨{ xs[i].p with cond := .mk 7 ⟨#[]⟩ 0 0 [xs[i].p.cond, f] }, some ⟨X, 0, none⟩, 2, xs[i].ae, xs[i].ce⟩).flatMap PvA.cells)) (hx : ∀ x ∈ xs, x.Ok w B) (hb : Below B w W) (hB : B ≤ X)
    (hX : Blk W X 44 #[.int .i64 xs[i].p.cond.op, .string xs[i].p.cond.name, .int .i64 xs[i].p.cond.cmp, .int .i64 xs[i].p.cond.n, .slice xs[i].ak xs[i].p.cond.kids.length xs[i].ck, .int .i64 f.op, .string f.name, .int .i64 f.cmp, .int .i64 f.n, .slice fo f.kids.length fc])
    (hf : f.In w B (.agg #[.int .i64 f.op, .string f.name, .int .i64 f.cmp, .int .i64 f.n, .slice fo f.kids.length fc])) (hd : SlIn FaR 4 w B d u1) :
    LawIn W W.heap.size d ((xs.map (·.p)).set i (chP f xs[i].p)) (.agg #[u1, v, .slice asn ns cs]) := by
  have hXW := hX.lt
  have hBW : B ≤ W.heap.size := by omega
  have hlen : (xs.set i ⟨{ xs[i].p with cond := .mk 7 ⟨#[]⟩ 0 0 [xs[i].p.cond, f] }, some ⟨X, 0, none⟩, 2, xs[i].ae, xs[i].ce⟩).length = xs.length := List.length_set
  rw [← hlen] at hrow
  have hp := own_pvs hrow (Nat.le_refl _) (fun y hy => by
    rcases List.mem_or_eq_of_mem_set hy with hm | rfl
    · exact ((hx y hm).up hb).mono hBW
    · obtain ⟨h1, h2, h3⟩ := ((hx xs[i] (List.getElem_mem hi)).up hb).mono hBW
      exact ⟨or_in hXW hX h1 (Fo.In.mono hBW _ _ (hf.below hb)), h2, h3⟩)
  rw [List.map_set] at hp
  exact ⟨u1, v, asn, ns, cs, rfl, (hd.below FaR.kept hb).mono FaR.mono hBW, hp⟩
theorem change_bounds {ps : List Pv} {i : Nat} (hi : i < ps.length) (f : Fo) (hf : f.size ≤ 100) (hex : ∀ p ∈ ps, p.except.length ≤ 40) (hsz : ∀ p ∈ ps, p.cond.size ≤ 250) : (∀ p ∈ ps.set i (chP f ps[i]), p.except.length ≤ 40) ∧ (∀ p ∈ ps.set i (chP f ps[i]), p.cond.size ≤ 1000000) := by
  refine ⟨fun p hp => ?_, fun p hp => ?_⟩
  · rcases List.mem_or_eq_of_mem_set hp with hm | rfl
    · exact hex p hm
    · exact hex ps[i] (List.getElem_mem hi)
  · rcases List.mem_or_eq_of_mem_set hp with hm | rfl
    · exact Nat.le_trans (hsz p hm) (by decide)
    · have := hsz _ (List.getElem_mem hi)
      show Fo.size (.mk 7 _ 0 0 [ps[i].cond, f]) ≤ _
      simp only [Fo.size, Fo.sizeL]
      omega

section
set_option maxRecDepth 100000 in
set_option maxHeartbeats 8000000 in
theorem normChanges_any {d : List Fa} {ps : List Pv} {raw : Int} {f : Fo} {c : List Int} {v fv cv : Value} (w : World) (hl : LawIn w w.heap.size d ps v) (hr0 : 0 ≤ raw) (hr1 : raw ≤ 255) (hf : f.In w w.heap.size fv) (hc : IntsIn w w.heap.size c cv) :
    Calls Tryz.prog 8 #[v, .int .u8 raw, fv, cv] w fun e w' => e = .returned (.bool true) ∧ Below w.heap.size w w' := by
  have hl0 := hl
  obtain ⟨u1, u2, asn, ns, cs, rfl, hd, hp⟩ := hl
  obtain ⟨ad, cd, rfl, d1, d2, _⟩ := SlIn.shape hd
  obtain ⟨ap, cp, rfl, p1, p2, _⟩ := SlIn.shape hp
  have hc0 := hc
  obtain ⟨ac, cc, rfl, c1, c2, _⟩ := SlIn.shape hc
  obtain ⟨fo, fc, rfl⟩ := hf.shape
  unfold maxLen at p2
  have hbw : Below w.heap.size w ((w.alloc (.cells #[.slice ad d.length cd, .slice ap ps.length cp, .slice asn ns cs] 28)).alloc (.cells #[.int .i64 f.op, .string f.name, .int .i64 f.cmp, .int .i64 f.n, .slice fo f.kids.length fc] 44)) := ((Below.refl _ _).alloc (Nat.le_refl _) _).alloc (by simp) _
  have K0 := (Blk.new w 28 #[.slice ad d.length cd, .slice ap ps.length cp, .slice asn ns cs]).below ((Below.refl _ _).alloc (Nat.le_refl _) (.cells #[.int .i64 f.op, .string f.name, .int .i64 f.cmp, .int .i64 f.n, .slice fo f.kids.length fc] 44))
  have K1 : Blk ((w.alloc (.cells #[.slice ad d.length cd, .slice ap ps.length cp, .slice asn ns cs] 28)).alloc (.cells #[.int .i64 f.op, .string f.name, .int .i64 f.cmp, .int .i64 f.n, .slice fo f.kids.length fc] 44)) (w.heap.size + 1) 44 #[.int .i64 f.op, .string f.name, .int .i64 f.cmp, .int .i64 f.n, .slice fo f.kids.length fc] := by have h := Blk.new (w.alloc (.cells #[.slice ad d.length cd, .slice ap ps.length cp, .slice asn ns cs] 28)) 44 #[.int .i64 f.op, .string f.name, .int .i64 f.cmp, .int .i64 f.n, .slice fo f.kids.length fc]; simp only [World.size_alloc] at h; exact h
  have HX : Hid (KpC ((w.alloc (.cells #[.slice ad d.length cd, .slice ap ps.length cp, .slice asn ns cs] 28)).alloc (.cells #[.int .i64 f.op, .string f.name, .int .i64 f.cmp, .int .i64 f.n, .slice fo f.kids.length fc] 44)) w.heap.size (.slice ad d.length cd) (.slice ap ps.length cp) (.slice asn ns cs) (.int .i64 f.op) (.string f.name) (.int .i64 f.cmp) (.int .i64 f.n) (.slice fo f.kids.length fc)) :=
    ⟨K0.cell 0, K0.cell 1, K0.cell 2, K1.cell 0, K1.cell 1, K1.cell 2, K1.cell 3, K1.cell 4⟩
  have HBW := Lib.hid hbw
  have HFEW := Lib.hid (fun W (hb : Below w.heap.size w W) => few_any d ps 20 _ W w.heap.size (by decide) (by decide) hb.size (hl0.below hb))
  have HSM := Lib.hid (fun W (hb : Below w.heap.size w W) => small_any f 100 _ W w.heap.size (by decide) (by decide) hb.size (hf.below hb))
  cases hfw : fewL d ps 20 with
  | false =>
    rw [hfw] at HFEW
    clear hl0 hd hp hc hc0 hbw K0 K1 hfw hf
    go_enter Tryz.func8, Tryz.ntmps8
    go_wp2_with (first
      | (go_at_call 10; refine (head_any _).mono ?_; rintro e w1 ⟨rfl, hb1⟩; have HY1 := Lib.hid (kp_up HX.out hb1 (by simp)); have HB1 := Lib.hid (HBW.out.trans (hb1.mono (by simp; omega))); have hz1 := hb1.size; simp only [World.size_alloc] at hz1; obtain ⟨y0, y1, y2, y3, y4, y5, y6, y7⟩ := HY1.out; clear hb1)
      | (go_at_call 11; refine (HFEW.out _ HB1.out).mono ?_; rintro e w2 ⟨rfl, hb2⟩; have HY2 := Lib.hid (kp_up HY1.out hb2 (by omega)); have HB2 := Lib.hid (HB1.out.trans (hb2.mono (by omega))); have hz2 := hb2.size; clear hb2 y0 y1 y2 y3 y4 y5 y6 y7; obtain ⟨y0, y1, y2, y3, y4, y5, y6, y7⟩ := HY2.out))
    go_ret
    exact ⟨rfl, HB2.out⟩
  | true =>
    obtain ⟨hn, hex, hsz⟩ := fewL_parts (n := 20) hfw
    rw [hfw] at HFEW
    cases hs : smallF f 100 with
    | false =>
      rw [hs] at HSM
      clear hl0 hd hp hc hc0 hbw K0 K1 hfw hf hs hex hsz
      go_enter Tryz.func8, Tryz.ntmps8
      go_wp2_with (first
        | (go_at_call 10; refine (head_any _).mono ?_; rintro e w1 ⟨rfl, hb1⟩; have HY1 := Lib.hid (kp_up HX.out hb1 (by simp)); have HB1 := Lib.hid (HBW.out.trans (hb1.mono (by simp; omega))); have hz1 := hb1.size; simp only [World.size_alloc] at hz1; obtain ⟨y0, y1, y2, y3, y4, y5, y6, y7⟩ := HY1.out; clear hb1)
        | (go_at_call 11; refine (HFEW.out _ HB1.out).mono ?_; rintro e w2 ⟨rfl, hb2⟩; have HY2 := Lib.hid (kp_up HY1.out hb2 (by omega)); have HB2 := Lib.hid (HB1.out.trans (hb2.mono (by omega))); have hz2 := hb2.size; clear hb2 y0 y1 y2 y3 y4 y5 y6 y7; obtain ⟨y0, y1, y2, y3, y4, y5, y6, y7⟩ := HY2.out)
        | (go_at_call 24; refine (HSM.out _ HB2.out).mono ?_; rintro e w3 ⟨rfl, hb3⟩; have HY3 := Lib.hid (kp_up HY2.out hb3 (by omega)); have HB3 := Lib.hid (HB2.out.trans (hb3.mono (by omega))); have hz3 := hb3.size; clear hb3 y0 y1 y2 y3 y4 y5 y6 y7; obtain ⟨y0, y1, y2, y3, y4, y5, y6, y7⟩ := HY3.out))
      go_ret
      exact ⟨rfl, HB3.out⟩
    | true =>
      rw [hs] at HSM
      have hfs := smallF_size (most := 100) hs
      by_cases hpos : ps.length = 0
      · have hp0 : ((ps.length : Int) == 0) = true := by simp [hpos]
        clear hl0 hd hp hc hc0 hbw K0 K1 hfw hf hs hex hsz hpos
        go_enter Tryz.func8, Tryz.ntmps8
        go_wp2_with (first
          | (go_at_call 10; refine (head_any _).mono ?_; rintro e w1 ⟨rfl, hb1⟩; have HY1 := Lib.hid (kp_up HX.out hb1 (by simp)); have HB1 := Lib.hid (HBW.out.trans (hb1.mono (by simp; omega))); have hz1 := hb1.size; simp only [World.size_alloc] at hz1; obtain ⟨y0, y1, y2, y3, y4, y5, y6, y7⟩ := HY1.out; clear hb1)
          | (go_at_call 11; refine (HFEW.out _ HB1.out).mono ?_; rintro e w2 ⟨rfl, hb2⟩; have HY2 := Lib.hid (kp_up HY1.out hb2 (by omega)); have HB2 := Lib.hid (HB1.out.trans (hb2.mono (by omega))); have hz2 := hb2.size; clear hb2 y0 y1 y2 y3 y4 y5 y6 y7; obtain ⟨y0, y1, y2, y3, y4, y5, y6, y7⟩ := HY2.out)
          | (go_at_call 24; refine (HSM.out _ HB2.out).mono ?_; rintro e w3 ⟨rfl, hb3⟩; have HY3 := Lib.hid (kp_up HY2.out hb3 (by omega)); have HB3 := Lib.hid (HB2.out.trans (hb3.mono (by omega))); have hz3 := hb3.size; clear hb3 y0 y1 y2 y3 y4 y5 y6 y7; obtain ⟨y0, y1, y2, y3, y4, y5, y6, y7⟩ := HY3.out))
        go_ret
        exact ⟨rfl, HB3.out⟩
      · have hp0 : ((ps.length : Int) == 0) = false := by simp [hpos]
        have hne : ps ≠ [] := fun e => hpos (by rw [e]; rfl)
        obtain ⟨b, off, xs, rfl, hbB, hxp, hxo, hxr⟩ := pvs_rows hp hne
        have hxl : xs.length = ps.length := by have := congrArg List.length hxp; simpa using this
        have hn1 : (1 : Int) ≤ ps.length := by omega
        have hn2 : (ps.length : Int) ≤ 20 := by omega
        have hpz : ¬ (ps.length : Int) = 0 := by omega
        obtain ⟨i, hi, him⟩ : ∃ i : Nat, i < ps.length ∧ raw % (ps.length : Int) = (i : Int) := by
          have h0 := Int.emod_nonneg raw hpz
          have h1 := Int.emod_lt_of_pos raw (show (0 : Int) < (ps.length : Int) by omega)
          exact ⟨(raw % (ps.length : Int)).toNat, by omega, by omega⟩
        obtain ⟨ip, zp, hip, hsp_, hzp, hzc, hbp⟩ := pv_info
        have HF := Lib.hid hf
        have HDF := Lib.hid hd
        have HP := Lib.hid hp
        clear hd hp hc hbw K0 K1 hfw hs
        go_enter Tryz.func8, Tryz.ntmps8
        go_upto_region 6 with (first
          | (go_at_call 10; refine (head_any _).mono ?_; rintro e w1 ⟨rfl, hb1⟩; have HY1 := Lib.hid (kp_up HX.out hb1 (by simp)); have HB1 := Lib.hid (HBW.out.trans (hb1.mono (by simp; omega))); have hz1 := hb1.size; simp only [World.size_alloc] at hz1; obtain ⟨y0, y1, y2, y3, y4, y5, y6, y7⟩ := HY1.out; clear hb1)
          | (go_at_call 11; refine (HFEW.out _ HB1.out).mono ?_; rintro e w2 ⟨rfl, hb2⟩; have HY2 := Lib.hid (kp_up HY1.out hb2 (by omega)); have HB2 := Lib.hid (HB1.out.trans (hb2.mono (by omega))); have hz2 := hb2.size; clear hb2 y0 y1 y2 y3 y4 y5 y6 y7; obtain ⟨y0, y1, y2, y3, y4, y5, y6, y7⟩ := HY2.out)
          | (go_at_call 24; refine (HSM.out _ HB2.out).mono ?_; rintro e w3 ⟨rfl, hb3⟩; have HY3 := Lib.hid (kp_up HY2.out hb3 (by omega)); have HB3 := Lib.hid (HB2.out.trans (hb3.mono (by omega))); have hz3 := hb3.size; clear hb3 y0 y1 y2 y3 y4 y5 y6 y7; obtain ⟨y0, y1, y2, y3, y4, y5, y6, y7⟩ := HY3.out))
        rw [him]
        have hbb : Below w.heap.size w ((w3.alloc (.cells #[.slice ad d.length cd, .slice (some ⟨b, off, none⟩) ps.length cp, .slice asn ns cs] 28)).alloc (.cells #[] 49)) := (HB3.out.alloc (by omega) _).alloc (by simp; omega) _
        have HE : Hid (((w3.alloc (.cells #[.slice ad d.length cd, .slice (some ⟨b, off, none⟩) ps.length cp, .slice asn ns cs] 28)).alloc (.cells #[] 49)).ownsRow (w3.heap.size + 1) 49 23 (.slice (some ⟨w3.heap.size + 1, 0, none⟩) 0 0) 0 []) := by
          have h := own_empty (w3.alloc (.cells #[.slice ad d.length cd, .slice (some ⟨b, off, none⟩) ps.length cp, .slice asn ns cs] 28)) (w3.heap.size + 1) 49 23 (by simp)
          simp only [World.size_alloc] at h
          exact h
        have HR : Hid (((w3.alloc (.cells #[.slice ad d.length cd, .slice (some ⟨b, off, none⟩) ps.length cp, .slice asn ns cs] 28)).alloc (.cells #[] 49)).rangeAt b off (xs.flatMap PvA.cells)) := fun j v hv => (hbb.cell (p := ⟨b, off + j, none⟩) hbB).trans (hxr j v hv)
        have hb35 : Below w3.heap.size w3 ((w3.alloc (.cells #[.slice ad d.length cd, .slice (some ⟨b, off, none⟩) ps.length cp, .slice asn ns cs] 28)).alloc (.cells #[] 49)) := ((Below.refl _ _).alloc (Nat.le_refl _) _).alloc (by simp) _
        have q1 := (hb35.cell (p := ⟨w.heap.size, 1, none⟩) (by show w.heap.size < _; omega)).trans y1
        have hfl : (xs.flatMap PvA.cells).length = ps.length * 23 := by rw [flat_len, hxl]
        go_upto_region 7 with (at_builtin; refine wpList_append_own_at _ (by rfl) (.tmp 42) (.tmp 44) 25 (by rfl) (w3.heap.size + 1) 49 ip zp 23 312 Tryz.underlying25 hip hzp hsp_ hbp hzc (by omega) (.slice (some ⟨w3.heap.size + 1, 0, none⟩) 0 0) 0 [] (by rfl) HE.out ⟨b, off, none⟩ ps.length cp (xs.flatMap PvA.cells) (by rfl) hfl (news_range HR.out) (flat_one xs) (by unfold maxLen; omega) (by omega) (by simp) ?_; intro v5 w5 hown5 hgrow5 hnil5 hat5; rw [Nat.zero_add, List.nil_append] at hown5; obtain ⟨g5, cap5, rfl, hg1, hg2, hg3, hg4⟩ := own_pos hown5 (by omega); have KM := ((Blk.new w3 28 #[.slice ad d.length cd, .slice (some ⟨b, off, none⟩) ps.length cp, .slice asn ns cs]).below ((Below.refl _ _).alloc (Nat.le_refl _) (.cells #[] 49))).grown hgrow5 (by simp [Value.ownBlock]); have s1 := KM.cell 1; have s2 := KM.frozen 1; have HG5 := Lib.hid hgrow5; have HKM := Lib.hid KM; clear hnil5 hat5 hgrow5 KM)
        have HB5 : Hid (Below w3.heap.size w3 w5) := hb35.grown HG5.out (by simp; omega) (fun g e => by simp only [Value.ownBlock, Option.some.injEq] at e; omega)
        have hb3a : Below w3.heap.size w3 (w5.setCell ⟨w3.heap.size, 1, none⟩ (.slice (some ⟨g5, 0, none⟩) ps.length cap5)) := HB5.out.setCell (p := ⟨w3.heap.size, 1, none⟩) (Nat.le_refl _) _
        have hrow := own_struck hown5 ⟨w3.heap.size, 1, none⟩ (.slice (some ⟨g5, 0, none⟩) ps.length cap5) (fun g e => by simp only [Value.ownBlock, Option.some.injEq] at e; subst e; show g5 ≠ w3.heap.size; omega)
        have hkm := HKM.out.set 1 (.slice (some ⟨g5, 0, none⟩) ps.length cap5)
        have hsz5 : (w5.setCell ⟨w3.heap.size, 1, none⟩ (.slice (some ⟨g5, 0, none⟩) ps.length cap5)).heap.size = w5.heap.size := World.size_setCell _ _ _
        clear y0 y1 y2 y3 y4 y5 y6 y7 q1 s1 s2 hown5 HKM HG5
        generalize w5.setCell ⟨w3.heap.size, 1, none⟩ (.slice (some ⟨g5, 0, none⟩) ps.length cap5) = wa at *
        have HA : Hid (KpC wa w.heap.size _ _ _ _ _ _ _ _) := kp_up HY3.out hb3a (by omega)
        have HBA := Lib.hid (HB3.out.trans (hb3a.mono (by omega)))
        obtain ⟨y0, y1, y2, y3, y4, y5, y6, y7⟩ := HA.out
        have m1 : wa.cell? ⟨w3.heap.size, 1, none⟩ = some (.slice (some ⟨g5, 0, none⟩) ps.length cap5) := hkm.cell 1
        have hxi : i < xs.length := by omega
        have hcell : ∀ j u, j < 23 → xs[i].cells[j]? = some u → wa.cell? ⟨b, off + i * 23 + j, none⟩ = some u ∧ wa.cell? ⟨g5, i * 23 + j, none⟩ = some u ∧ wa.frozen? ⟨g5, i * 23 + j, none⟩ = false := fun j u hj hu => by
          have h1 := (flat_get xs i j hxi hj).trans hu
          have h2 := (HBA.out.cell (p := ⟨b, off + (i * 23 + j), none⟩) hbB).trans (hxr (i * 23 + j) u h1)
          rw [← Nat.add_assoc] at h2
          have h3 := own_at (show wa.ownsRow _ _ _ (.slice (some ⟨g5, 0, none⟩) ps.length cap5) ps.length _ from hrow) h1
          exact ⟨h2, h3⟩
        have c5 := hcell 5 _ (by decide) rfl
        have c6 := hcell 6 _ (by decide) rfl
        have c7 := hcell 7 _ (by decide) rfl
        have c8 := hcell 8 _ (by decide) rfl
        have c9 := hcell 9 _ (by decide) rfl
        generalize hxx : xs[i] = x at *
        have hs12 : S12 wa w.heap.size w3.heap.size b (off + i * 23) _ _ _ _ _ _ _ _ _ _ _ _ := ⟨y1, m1, y3, y4, y5, y6, y7, c5.1, c6.1, c7.1, c8.1, c9.1⟩
        have HS12 := Lib.hid hs12
        have i0 : (0 : Int) ≤ (i : Int) := Int.natCast_nonneg _
        have i1 : (i : Int) < (ps.length : Int) := by omega
        obtain ⟨k5, z5⟩ := c5.2
        obtain ⟨k6, z6⟩ := c6.2
        obtain ⟨k7, z7⟩ := c7.2
        obtain ⟨k8, z8⟩ := c8.2
        obtain ⟨k9, z9⟩ := c9.2
        have hga : g5 < wa.heap.size := by omega
        have hbs : b < wa.heap.size := by omega
        clear hs12 y0 y1 y2 y3 y4 y5 y6 y7 m1 c5 c6 c7 c8 c9
        have HROW := Lib.hid hrow
        have HKM := Lib.hid hkm
        have HWA : Hid (Below (w3.heap.size + 1) wa wa) := Below.refl _ _
        clear hrow hkm hcell hxr
        refine wp_region_held_drew (S := (fun w' : World => Below (w3.heap.size + 1) wa w')) (by kernel_rfl) (World.drewN_below _ _ 1) (fun hHeld => ?_)
        refine wpAnyH_take (i := 0) (oi := { dst := some 47, op := Go.Op.fieldAddr 28 (Go.Operand.tmp 11) 1, type := 0, pos := "law.go:189", after := #[], guard := none }) (v := ?v0) rfl (by kernel_rfl) (by kernel_rfl) (by kernel_rfl) (fun _ _ _ h => h) (Or.inl ⟨by rfl, ?y0⟩) (by assumption) ?_
        case y0 => (intro w9 hSw; obtain ⟨e0, e1, e2, e3, e4, e5, e6, e7, e8, e9, e10, e11⟩ := s12_up HS12.out hSw (by omega) (Nat.lt_succ_self _) (by omega); go_simp; try with_reducible rfl)
        try simp only [Act.put, List.setIfInBounds_toArray, List.set_cons_zero, List.set_cons_succ]
        refine wpAnyH_take (i := 1) (oi := { dst := some 48, op := Go.Op.load 25 (Go.Operand.tmp 47), type := 25, pos := "law.go:189", after := #[{ on := 0, ground := Go.Ground.data }], guard := none }) (v := ?v1) rfl (by kernel_rfl) (by kernel_rfl) (by kernel_rfl) (fun _ _ _ h => h) (Or.inl ⟨by rfl, ?y1⟩) (by assumption) ?_
        case y1 => (intro w9 hSw; obtain ⟨e0, e1, e2, e3, e4, e5, e6, e7, e8, e9, e10, e11⟩ := s12_up HS12.out hSw (by omega) (Nat.lt_succ_self _) (by omega); go_simp; try with_reducible rfl)
        try simp only [Act.put, List.setIfInBounds_toArray, List.set_cons_zero, List.set_cons_succ]
        refine wpAnyH_take (i := 2) (oi := { dst := some 49, op := Go.Op.move (Go.Operand.tmp 10), type := 3, pos := "law.go:189", after := #[], guard := none }) (v := ?v2) rfl (by kernel_rfl) (by kernel_rfl) (by kernel_rfl) (fun _ _ _ h => h) (Or.inl ⟨by rfl, ?y2⟩) (by assumption) ?_
        case y2 => (intro w9 hSw; obtain ⟨e0, e1, e2, e3, e4, e5, e6, e7, e8, e9, e10, e11⟩ := s12_up HS12.out hSw (by omega) (Nat.lt_succ_self _) (by omega); go_simp; try with_reducible rfl)
        try simp only [Act.put, List.setIfInBounds_toArray, List.set_cons_zero, List.set_cons_succ]
        refine wpAnyH_take (i := 3) (oi := { dst := some 50, op := Go.Op.fieldAddr 28 (Go.Operand.tmp 4) 1, type := 0, pos := "law.go:189", after := #[], guard := none }) (v := ?v3) rfl (by kernel_rfl) (by kernel_rfl) (by kernel_rfl) (fun _ _ _ h => h) (Or.inl ⟨by rfl, ?y3⟩) (by assumption) ?_
        case y3 => (intro w9 hSw; obtain ⟨e0, e1, e2, e3, e4, e5, e6, e7, e8, e9, e10, e11⟩ := s12_up HS12.out hSw (by omega) (Nat.lt_succ_self _) (by omega); go_simp; try with_reducible rfl)
        try simp only [Act.put, List.setIfInBounds_toArray, List.set_cons_zero, List.set_cons_succ]
        refine wpAnyH_take (i := 4) (oi := { dst := some 51, op := Go.Op.load 25 (Go.Operand.tmp 50), type := 25, pos := "law.go:189", after := #[{ on := 3, ground := Go.Ground.data }], guard := none }) (v := ?v4) rfl (by kernel_rfl) (by kernel_rfl) (by kernel_rfl) (fun _ _ _ h => h) (Or.inl ⟨by rfl, ?y4⟩) (by assumption) ?_
        case y4 => (intro w9 hSw; obtain ⟨e0, e1, e2, e3, e4, e5, e6, e7, e8, e9, e10, e11⟩ := s12_up HS12.out hSw (by omega) (Nat.lt_succ_self _) (by omega); go_simp; try with_reducible rfl)
        try simp only [Act.put, List.setIfInBounds_toArray, List.set_cons_zero, List.set_cons_succ]
        refine wpAnyH_take (i := 5) (oi := { dst := some 52, op := Go.Op.move (Go.Operand.tmp 10), type := 3, pos := "law.go:189", after := #[], guard := none }) (v := ?v5) rfl (by kernel_rfl) (by kernel_rfl) (by kernel_rfl) (fun _ _ _ h => h) (Or.inl ⟨by rfl, ?y5⟩) (by assumption) ?_
        case y5 => (intro w9 hSw; obtain ⟨e0, e1, e2, e3, e4, e5, e6, e7, e8, e9, e10, e11⟩ := s12_up HS12.out hSw (by omega) (Nat.lt_succ_self _) (by omega); go_simp; try with_reducible rfl)
        try simp only [Act.put, List.setIfInBounds_toArray, List.set_cons_zero, List.set_cons_succ]
        refine wpAnyH_take (i := 6) (oi := { dst := some 53, op := Go.Op.indexAddr 25 (Go.Operand.tmp 51) (Go.Operand.tmp 52), type := 0, pos := "law.go:189", after := #[{ on := 4, ground := Go.Ground.data }, { on := 5, ground := Go.Ground.data }], guard := none }) (v := ?v6) rfl (by kernel_rfl) (by kernel_rfl) (by kernel_rfl) (fun _ _ _ h => h) (Or.inl ⟨by rfl, ?y6⟩) (by assumption) ?_
        case y6 => (intro w9 hSw; obtain ⟨e0, e1, e2, e3, e4, e5, e6, e7, e8, e9, e10, e11⟩ := s12_up HS12.out hSw (by omega) (Nat.lt_succ_self _) (by omega); go_simp; try with_reducible rfl)
        try simp only [Act.put, List.setIfInBounds_toArray, List.set_cons_zero, List.set_cons_succ]
        refine wpAnyH_take (i := 7) (oi := { dst := some 54, op := Go.Op.fieldAddr 49 (Go.Operand.tmp 53) 5, type := 0, pos := "law.go:189", after := #[{ on := 6, ground := Go.Ground.data }], guard := none }) (v := ?v7) rfl (by kernel_rfl) (by kernel_rfl) (by kernel_rfl) (fun _ _ _ h => h) (Or.inl ⟨by rfl, ?y7⟩) (by assumption) ?_
        case y7 => (intro w9 hSw; obtain ⟨e0, e1, e2, e3, e4, e5, e6, e7, e8, e9, e10, e11⟩ := s12_up HS12.out hSw (by omega) (Nat.lt_succ_self _) (by omega); go_simp; try with_reducible rfl)
        try simp only [Act.put, List.setIfInBounds_toArray, List.set_cons_zero, List.set_cons_succ]
        refine wpAnyH_take (i := 8) (oi := { dst := some 55, op := Go.Op.load 44 (Go.Operand.tmp 54), type := 44, pos := "law.go:189", after := #[{ on := 7, ground := Go.Ground.data }], guard := none }) (v := ?v8) rfl (by kernel_rfl) (by kernel_rfl) (by kernel_rfl) (fun _ _ _ h => h) (Or.inl ⟨by rfl, ?y8⟩) (by assumption) ?_
        case y8 => (intro w9 hSw; obtain ⟨e0, e1, e2, e3, e4, e5, e6, e7, e8, e9, e10, e11⟩ := s12_up HS12.out hSw (by omega) (Nat.lt_succ_self _) (by omega); go_simp; try with_reducible rfl)
        try simp only [Act.put, List.setIfInBounds_toArray, List.set_cons_zero, List.set_cons_succ]
        refine wpAnyH_take (i := 9) (oi := { dst := some 56, op := Go.Op.load 44 (Go.Operand.tmp 6), type := 44, pos := "law.go:189", after := #[], guard := none }) (v := ?v9) rfl (by kernel_rfl) (by kernel_rfl) (by kernel_rfl) (fun _ _ _ h => h) (Or.inl ⟨by rfl, ?y9⟩) (by assumption) ?_
        case y9 => (intro w9 hSw; obtain ⟨e0, e1, e2, e3, e4, e5, e6, e7, e8, e9, e10, e11⟩ := s12_up HS12.out hSw (by omega) (Nat.lt_succ_self _) (by omega); go_simp; try with_reducible rfl)
        try simp only [Act.put, List.setIfInBounds_toArray, List.set_cons_zero, List.set_cons_succ]
        refine wpAnyH_ready (rs := [10]) (by kernel_rfl) (by simp) ?_
        refine AllReadyH.cons (o := { dst := some 57, op := Go.Op.buildSlice 42 2 #[(0, Go.Operand.tmp 55), (1, Go.Operand.tmp 56)], type := 42, pos := "law.go:189", after := #[{ on := 8, ground := Go.Ground.data }, { on := 9, ground := Go.Ground.data }], guard := none }) rfl (fun K hK => ?_) AllReadyH.nil
        (refine step_build_fo2 rfl (.tmp 55) (.tmp 56) rfl _ _ _ _ _ _ _ _ _ _ (by rfl) (by rfl) _ (by rfl) ?_)
        refine hK.out _ _ ?_ (fun hHeld => ?_)
        · exact ((Below.refl _ _).alloc (by omega) _).trans (World.drewN_below _ _ 1)
        clear hK K
        try simp only [Act.put, List.setIfInBounds_toArray, List.set_cons_zero, List.set_cons_succ]
        refine wpAnyH_take (i := 11) (oi := { dst := some 58, op := Go.Op.build 44 #[(0, Go.Operand.const (Go.Value.int Go.IntKind.i64 7)), (4, Go.Operand.tmp 57)], type := 44, pos := "law.go:189", after := #[{ on := 10, ground := Go.Ground.data }], guard := none }) (v := ?v11) rfl (by kernel_rfl) (by kernel_rfl) (by kernel_rfl) (fun _ _ _ h => h) (Or.inl ⟨by rfl, ?y11⟩) (by assumption) ?_
        case y11 => (intro w9 hSw; obtain ⟨e0, e1, e2, e3, e4, e5, e6, e7, e8, e9, e10, e11⟩ := s12_up HS12.out hSw (by omega) (Nat.lt_succ_self _) (by omega); go_simp; try with_reducible rfl)
        try simp only [Act.put, List.setIfInBounds_toArray, List.set_cons_zero, List.set_cons_succ]
        refine wpAnyH_take (i := 12) (oi := { dst := some 59, op := Go.Op.indexAddr 25 (Go.Operand.tmp 48) (Go.Operand.tmp 49), type := 0, pos := "law.go:189", after := #[{ on := 1, ground := Go.Ground.data }, { on := 2, ground := Go.Ground.data }, { on := 0, ground := Go.Ground.phase }, { on := 1, ground := Go.Ground.phase }, { on := 2, ground := Go.Ground.phase }, { on := 3, ground := Go.Ground.phase }, { on := 4, ground := Go.Ground.phase }, { on := 5, ground := Go.Ground.phase }, { on := 6, ground := Go.Ground.phase }, { on := 7, ground := Go.Ground.phase }, { on := 8, ground := Go.Ground.phase }, { on := 9, ground := Go.Ground.phase }, { on := 10, ground := Go.Ground.phase }, { on := 11, ground := Go.Ground.phase }], guard := none }) (v := ?v12) rfl (by kernel_rfl) (by kernel_rfl) (by kernel_rfl) (fun _ _ _ h => h) (Or.inl ⟨by rfl, ?y12⟩) (by assumption) ?_
        case y12 => (intro w9 hSw; obtain ⟨e0, e1, e2, e3, e4, e5, e6, e7, e8, e9, e10, e11⟩ := s12_up HS12.out hSw (by omega) (Nat.lt_succ_self _) (by omega); go_simp; try with_reducible rfl)
        try simp only [Act.put, List.setIfInBounds_toArray, List.set_cons_zero, List.set_cons_succ]
        refine wpAnyH_take (i := 13) (oi := { dst := some 60, op := Go.Op.fieldAddr 49 (Go.Operand.tmp 59) 5, type := 0, pos := "law.go:189", after := #[{ on := 12, ground := Go.Ground.data }, { on := 0, ground := Go.Ground.phase }, { on := 1, ground := Go.Ground.phase }, { on := 2, ground := Go.Ground.phase }, { on := 3, ground := Go.Ground.phase }, { on := 4, ground := Go.Ground.phase }, { on := 5, ground := Go.Ground.phase }, { on := 6, ground := Go.Ground.phase }, { on := 7, ground := Go.Ground.phase }, { on := 8, ground := Go.Ground.phase }, { on := 9, ground := Go.Ground.phase }, { on := 10, ground := Go.Ground.phase }, { on := 11, ground := Go.Ground.phase }], guard := none }) (v := ?v13) rfl (by kernel_rfl) (by kernel_rfl) (by kernel_rfl) (fun _ _ _ h => h) (Or.inl ⟨by rfl, ?y13⟩) (by assumption) ?_
        case y13 => (intro w9 hSw; obtain ⟨e0, e1, e2, e3, e4, e5, e6, e7, e8, e9, e10, e11⟩ := s12_up HS12.out hSw (by omega) (Nat.lt_succ_self _) (by omega); go_simp; try with_reducible rfl)
        try simp only [Act.put, List.setIfInBounds_toArray, List.set_cons_zero, List.set_cons_succ]
        refine wpAnyH_ready (rs := [14]) (by kernel_rfl) (by simp) ?_
        refine AllReadyH.cons (o := { dst := none, op := Go.Op.store 44 (Go.Operand.tmp 60) (Go.Operand.tmp 58), type := 0, pos := "law.go:189", after := #[{ on := 13, ground := Go.Ground.data }, { on := 11, ground := Go.Ground.data }, { on := 0, ground := Go.Ground.phase }, { on := 1, ground := Go.Ground.phase }, { on := 2, ground := Go.Ground.phase }, { on := 3, ground := Go.Ground.phase }, { on := 4, ground := Go.Ground.phase }, { on := 5, ground := Go.Ground.phase }, { on := 6, ground := Go.Ground.phase }, { on := 7, ground := Go.Ground.phase }, { on := 8, ground := Go.Ground.phase }, { on := 9, ground := Go.Ground.phase }, { on := 10, ground := Go.Ground.phase }, { on := 11, ground := Go.Ground.phase }], guard := none }) rfl (fun K hK => ?_) AllReadyH.nil
        go_simp
        refine hK.out _ _ ?_ (fun hHeld => ?_)
        · exact (((((((Below.refl _ _).setCell (p := ⟨g5, _, none⟩) hg1 _).setCell (p := ⟨g5, _, none⟩) hg1 _).setCell (p := ⟨g5, _, none⟩) hg1 _).setCell (p := ⟨g5, _, none⟩) hg1 _).setCell (p := ⟨g5, _, none⟩) hg1 _).alloc (by simp only [World.size_setCell]; omega) _).trans (World.drewN_below _ _ 1)
        clear hK K
        try simp only [Act.put, List.setIfInBounds_toArray, List.set_cons_zero, List.set_cons_succ]
        refine wpAnyH_done (by kernel_rfl) ?_ _
        have hbb : Below (w3.heap.size + 1) wa ((((((wa.setCell ⟨g5, i * 23 + 5, none⟩ (.int .i64 7)).setCell ⟨g5, i * 23 + 5 + 1, none⟩ (.string ⟨#[]⟩)).setCell ⟨g5, i * 23 + 5 + 2, none⟩ (.int .i64 0)).setCell ⟨g5, i * 23 + 5 + 3, none⟩ (.int .i64 0)).setCell ⟨g5, i * 23 + 5 + 4, none⟩ (.slice (some ⟨w5.heap.size, 0, none⟩) 2 2)).alloc (.cells #[.int .i64 x.p.cond.op, .string x.p.cond.name, .int .i64 x.p.cond.cmp, .int .i64 x.p.cond.n, .slice x.ak x.p.cond.kids.length x.ck, .int .i64 f.op, .string f.name, .int .i64 f.cmp, .int .i64 f.n, .slice fo f.kids.length fc] 44)).drew := (((((((Below.refl _ _).setCell (p := ⟨g5, _, none⟩) hg1 _).setCell (p := ⟨g5, _, none⟩) hg1 _).setCell (p := ⟨g5, _, none⟩) hg1 _).setCell (p := ⟨g5, _, none⟩) hg1 _).setCell (p := ⟨g5, _, none⟩) hg1 _).alloc (by simp only [World.size_setCell]; omega) _).trans (World.drewN_below _ _ 1)
        have hXB : Blk ((((((wa.setCell ⟨g5, i * 23 + 5, none⟩ (.int .i64 7)).setCell ⟨g5, i * 23 + 5 + 1, none⟩ (.string ⟨#[]⟩)).setCell ⟨g5, i * 23 + 5 + 2, none⟩ (.int .i64 0)).setCell ⟨g5, i * 23 + 5 + 3, none⟩ (.int .i64 0)).setCell ⟨g5, i * 23 + 5 + 4, none⟩ (.slice (some ⟨w5.heap.size, 0, none⟩) 2 2)).alloc (.cells #[.int .i64 x.p.cond.op, .string x.p.cond.name, .int .i64 x.p.cond.cmp, .int .i64 x.p.cond.n, .slice x.ak x.p.cond.kids.length x.ck, .int .i64 f.op, .string f.name, .int .i64 f.cmp, .int .i64 f.n, .slice fo f.kids.length fc] 44)).drew w5.heap.size 44 #[.int .i64 x.p.cond.op, .string x.p.cond.name, .int .i64 x.p.cond.cmp, .int .i64 x.p.cond.n, .slice x.ak x.p.cond.kids.length x.ck, .int .i64 f.op, .string f.name, .int .i64 f.cmp, .int .i64 f.n, .slice fo f.kids.length fc] := by
          have h := Blk.new (((((wa.setCell ⟨g5, i * 23 + 5, none⟩ (.int .i64 7)).setCell ⟨g5, i * 23 + 5 + 1, none⟩ (.string ⟨#[]⟩)).setCell ⟨g5, i * 23 + 5 + 2, none⟩ (.int .i64 0)).setCell ⟨g5, i * 23 + 5 + 3, none⟩ (.int .i64 0)).setCell ⟨g5, i * 23 + 5 + 4, none⟩ (.slice (some ⟨w5.heap.size, 0, none⟩) 2 2)) 44 #[.int .i64 x.p.cond.op, .string x.p.cond.name, .int .i64 x.p.cond.cmp, .int .i64 x.p.cond.n, .slice x.ak x.p.cond.kids.length x.ck, .int .i64 f.op, .string f.name, .int .i64 f.cmp, .int .i64 f.n, .slice fo f.kids.length fc]
          simp only [World.size_setCell, hsz5] at h
          exact h
        have hrow2 := own_cond (xs := xs) (by rw [hxl]; exact HROW.out) i hxi (.mk 7 ⟨#[]⟩ 0 0 [xs[i].p.cond, f]) (some ⟨w5.heap.size, 0, none⟩) 2
        have hrow3 : World.ownsRow ((((((wa.setCell ⟨g5, i * 23 + 5, none⟩ (.int .i64 7)).setCell ⟨g5, i * 23 + 5 + 1, none⟩ (.string ⟨#[]⟩)).setCell ⟨g5, i * 23 + 5 + 2, none⟩ (.int .i64 0)).setCell ⟨g5, i * 23 + 5 + 3, none⟩ (.int .i64 0)).setCell ⟨g5, i * 23 + 5 + 4, none⟩ (.slice (some ⟨w5.heap.size, 0, none⟩) 2 2)).alloc (.cells #[.int .i64 x.p.cond.op, .string x.p.cond.name, .int .i64 x.p.cond.cmp, .int .i64 x.p.cond.n, .slice x.ak x.p.cond.kids.length x.ck, .int .i64 f.op, .string f.name, .int .i64 f.cmp, .int .i64 f.n, .slice fo f.kids.length fc] 44)).drew (w3.heap.size + 1) 49 23 (.slice (some ⟨g5, 0, none⟩) xs.length cap5) xs.length ((xs.set i ⟨{ xs[i].p with cond := .mk 7 ⟨#[]⟩ 0 0 [xs[i].p.cond, f] }, some ⟨w5.heap.size, 0, none⟩, 2, xs[i].ae, xs[i].ce⟩).flatMap PvA.cells) := hrow2.alloc _
        subst hxx
        have hlm := more_change (asn := asn) (ns := ns) (cs := cs) hxi hrow3 hxo (HBA.out.trans (hbb.mono (by omega))) (by omega) hXB HF.out HDF.out
        have hps : (xs.map (·.p)).set i (chP f xs[i].p) = ps.set i (chP f ps[i]) := by
          rw [hxp]
          congr 2
          have := List.getElem_of_eq hxp (by simpa using hxi)
          rw [List.getElem_map] at this
          exact this
        rw [hps, hxl] at hlm
        have hcb : Blk wa w3.heap.size 28 (#[.slice ad d.length cd, .slice (some ⟨b, off, none⟩) ps.length cp, .slice asn ns cs].setIfInBounds 1 (.slice (some ⟨g5, 0, none⟩) ps.length cap5)) := HKM.out
        have hmb : (((((((wa.setCell ⟨g5, i * 23 + 5, none⟩ (.int .i64 7)).setCell ⟨g5, i * 23 + 5 + 1, none⟩ (.string ⟨#[]⟩)).setCell ⟨g5, i * 23 + 5 + 2, none⟩ (.int .i64 0)).setCell ⟨g5, i * 23 + 5 + 3, none⟩ (.int .i64 0)).setCell ⟨g5, i * 23 + 5 + 4, none⟩ (.slice (some ⟨w5.heap.size, 0, none⟩) 2 2)).alloc (.cells #[.int .i64 xs[i].p.cond.op, .string xs[i].p.cond.name, .int .i64 xs[i].p.cond.cmp, .int .i64 xs[i].p.cond.n, .slice xs[i].ak xs[i].p.cond.kids.length xs[i].ck, .int .i64 f.op, .string f.name, .int .i64 f.cmp, .int .i64 f.n, .slice fo f.kids.length fc] 44)).drew).heap[w3.heap.size]? = wa.heap[w3.heap.size]? := hbb.block _ (Nat.lt_succ_self _)
        clear k5 k6 k7 k8 k9 z5 z6 z7 z8 z9 HS12 HROW HKM HWA hrow2 hrow3 hXB hxo hga hbs
        generalize ((((((wa.setCell ⟨g5, i * 23 + 5, none⟩ (.int .i64 7)).setCell ⟨g5, i * 23 + 5 + 1, none⟩ (.string ⟨#[]⟩)).setCell ⟨g5, i * 23 + 5 + 2, none⟩ (.int .i64 0)).setCell ⟨g5, i * 23 + 5 + 3, none⟩ (.int .i64 0)).setCell ⟨g5, i * 23 + 5 + 4, none⟩ (.slice (some ⟨w5.heap.size, 0, none⟩) 2 2)).alloc (.cells #[.int .i64 xs[i].p.cond.op, .string xs[i].p.cond.name, .int .i64 xs[i].p.cond.cmp, .int .i64 xs[i].p.cond.n, .slice xs[i].ak xs[i].p.cond.kids.length xs[i].ck, .int .i64 f.op, .string f.name, .int .i64 f.cmp, .int .i64 f.n, .slice fo f.kids.length fc] 44)).drew = wb at *
        have hMB : Blk wb w3.heap.size 28 (#[.slice ad d.length cd, .slice (some ⟨b, off, none⟩) ps.length cp, .slice asn ns cs].setIfInBounds 1 (.slice (some ⟨g5, 0, none⟩) ps.length cap5)) := hmb.trans hcb
        have n0 : wb.cell? ⟨w3.heap.size, 0, none⟩ = some (.slice ad d.length cd) := hMB.cell 0
        have n1 : wb.cell? ⟨w3.heap.size, 1, none⟩ = some (.slice (some ⟨g5, 0, none⟩) ps.length cap5) := hMB.cell 1
        have n2 : wb.cell? ⟨w3.heap.size, 2, none⟩ = some (.slice asn ns cs) := hMB.cell 2
        have HKB := Lib.hid (kp_up HA.out hbb (by omega))
        have HBB := Lib.hid (HBA.out.trans (hbb.mono (by omega)))
        have HLM := Lib.hid hlm
        have hwb := hMB.lt
        have hwb2 : w.heap.size ≤ wb.heap.size := by omega
        clear hlm hMB hmb hcb hbb HA HBA hps hxp hHeld hsz5 hb3a
        have hcb2 := change_bounds hi f hfs hex hsz
        have hsz2 : ∀ p ∈ ps, p.cond.size ≤ 1000000 := fun p hp => Nat.le_trans (hsz p hp) (by decide)
        have HAPP := Lib.hid (fun W (hb : Below w.heap.size w W) => appl_any d ps c _ _ W w.heap.size (by omega) hb.size (hl0.below hb) hex hsz2 (hc0.below hb))
        have HAPQ := Lib.hid (fun W (hb : Below wb.heap.size wb W) => appl_any d (ps.set i (chP f ps[i])) c _ _ W wb.heap.size (by rw [List.length_set]; omega) hb.size (HLM.out.below hb) hcb2.1 hcb2.2 ((hc0.below (HBB.out.trans (hb.mono hwb2))).mono (OneR.mono _) hwb2))
        have HRC := Lib.hid (fun W (hb : Below w.heap.size w W) => reach_any d ps _ W w.heap.size (by omega) hb.size (hl0.below hb))
        have HCH : Hid (askE d ps c = 0 → askE d (ps.set i (chP f ps[i])) c = 0 → ∀ k (hk : k < ps.length), k ≠ i → fw (excB ps) ps.length i k = false →
          inB (if askE d (ps.set i (chP f ps[i])) c = 0 then appliedL d (ps.set i (chP f ps[i])) c else []) ps[k].id = inB (if askE d ps c = 0 then appliedL d ps c else []) ps[k].id) := fun h1 h2 k hk hki hr => by
          rw [if_pos h1, if_pos h2]; exact changes_law hi f h1 h2 k hk hki hr
        clear hcb2 hsz2 hl0 hc0 HLM hex hsz HFEW HSM
        generalize (if askE d (ps.set i (chP f ps[i])) c = 0 then appliedL d (ps.set i (chP f ps[i])) c else []) = bl at *
        generalize askE d (ps.set i (chP f ps[i])) c = eb at *
        generalize (if askE d ps c = 0 then appliedL d ps c else []) = al at *
        generalize askE d ps c = er at *
        obtain ⟨y0, y1, y2, _, _, _, _, _⟩ := HKB.out
        go_upto_region 9 with (go_at_call 12; refine (HAPP.out _ HBB.out).mono ?_; rintro e w6 ⟨u6, rfl, hb6, hu6⟩; obtain ⟨aa, ca, rfl, _, _, _⟩ := SlIn.shape hu6; have l0 := (hb6.cell (p := ⟨w.heap.size, 0, none⟩) (by show w.heap.size < _; omega)).trans y0; have l1 := (hb6.cell (p := ⟨w.heap.size, 1, none⟩) (by show w.heap.size < _; omega)).trans y1; have l2 := (hb6.cell (p := ⟨w.heap.size, 2, none⟩) (by show w.heap.size < _; omega)).trans y2; have m0 := (hb6.cell (p := ⟨w3.heap.size, 0, none⟩) hwb).trans n0; have m1 := (hb6.cell (p := ⟨w3.heap.size, 1, none⟩) hwb).trans n1; have m2 := (hb6.cell (p := ⟨w3.heap.size, 2, none⟩) hwb).trans n2; have hz6 := hb6.size; have HB6 := Lib.hid hb6; have HU6 := Lib.hid hu6; clear hb6 hu6 y0 y1 y2 n0 n1 n2)
        go_upto_region 10 with (go_at_call 12; refine (HAPQ.out _ HB6.out).mono ?_; rintro e w7 ⟨u7, rfl, hb7, hu7⟩; obtain ⟨ba, ca2, rfl, _, _, _⟩ := SlIn.shape hu7; have r0 := (hb7.cell (p := ⟨w.heap.size, 0, none⟩) (by show w.heap.size < _; omega)).trans l0; have r1 := (hb7.cell (p := ⟨w.heap.size, 1, none⟩) (by show w.heap.size < _; omega)).trans l1; have r2 := (hb7.cell (p := ⟨w.heap.size, 2, none⟩) (by show w.heap.size < _; omega)).trans l2; have hz7 := hb7.size; have HB7 := Lib.hid (HBB.out.trans ((HB6.out.trans (hb7.mono hz6)).mono hwb2)); have HU7 := Lib.hid (strs_up HU6.out hb7); have HV7 := Lib.hid hu7; clear hb7 hu7 l0 l1 l2 m0 m1 m2 HB6 HU6)
        by_cases hr : er = 0
        · subst hr
          by_cases hg : eb = 0
          · subst hg
            have HCK := Lib.hid (HCH.out rfl rfl)
            clear HCH HAPP HAPQ
            go_wp2_with (go_at_call 25; refine (HRC.out _ HB7.out).mono ?_; rintro e w8 ⟨rfl, ⟨wg, hgr⟩, hb8⟩; have t1 := (hb8.cell (p := ⟨w.heap.size, 1, none⟩) (by show w.heap.size < _; omega)).trans r1; have hz8 := hb8.size; have HG8 := Lib.hid hgr; have HB8 := Lib.hid (HB7.out.trans (hb8.mono (by omega))); have HU8 := Lib.hid (strs_up HU7.out hb8); have HV8 := Lib.hid (strs_up HV7.out hb8); clear hgr hb8 r0 r1 r2 HU7 HV7)
            go_loopw [17] (fun kv wr => ∃ k : Nat, k ≤ ps.length ∧ kv = .int .i64 k ∧ wr = w8) (fun kv _ => ps.length - (intOf kv).toNat)
            case atStart => exact ⟨0, Nat.zero_le _, rfl, rfl⟩
            case round =>
              obtain ⟨k, hk, rfl, rfl⟩ := hrel
              by_cases hlt : k < ps.length
              · obtain ⟨_, hbB2, bk, ck2, be, ce2, hr2, _⟩ := SlIn.get HP.out k hlt
                have ek := (HB8.out.cell (p := ⟨b, off + k * 23 + 0, none⟩) hbB2).trans (hr2 0 _ rfl)
                rw [Nat.add_zero] at ek
                have hck := HCK.out k hlt
                have g1 := HG8.out.row hi (Nat.le_refl _)
                have g2 := HG8.out.cell hi hlt
                have k0 : (0 : Int) ≤ (k : Int) := Int.natCast_nonneg _
                have k1 : (k : Int) < (ps.length : Int) := by omega
                generalize ps[k].id = id at *
                generalize fw (excB ps) ps.length i k = fb at *
                clear hr2
                by_cases hki : k = i
                · have hk2 : ((k : Int) != (i : Int)) = false := by simp [hki]
                  clear hck hki
                  go_wp2
                  go_roundw
                  case rel => exact ⟨k + 1, by omega, by go_num, by trivial⟩
                  case measure => simp [intOf]; omega
                · have hk2 : ((k : Int) != (i : Int)) = true := by rw [bne_iff_ne]; omega
                  cases fb with
                  | true =>
                    clear hck hki
                    go_wp2
                    go_roundw
                    case rel => exact ⟨k + 1, by omega, by go_num, by trivial⟩
                    case measure => simp [intOf]; omega
                  | false =>
                    obtain ⟨xb, hxb⟩ : ∃ xb, inB al id = xb := ⟨_, rfl⟩
                    have hyb := hck hki rfl
                    rw [hxb] at hyb
                    have CA := Lib.hid (in_q2 HU8.out hxb)
                    have CB := Lib.hid (in_q2 HV8.out hyb)
                    clear hck hki hxb hyb
                    cases xb with
                    | true =>
                      go_wp2_with (first
                        | (go_at_call_of 21 aa; refine CA.out.mono ?_; rintro e w9 ⟨rfl, rfl⟩)
                        | (go_at_call_of 21 ba; refine CB.out.mono ?_; rintro e w9 ⟨rfl, rfl⟩))
                      go_roundw
                      case rel => exact ⟨k + 1, by omega, by go_num, by trivial⟩
                      case measure => simp [intOf]; omega
                    | false =>
                      go_wp2_with (first
                        | (go_at_call_of 21 aa; refine CA.out.mono ?_; rintro e w9 ⟨rfl, rfl⟩)
                        | (go_at_call_of 21 ba; refine CB.out.mono ?_; rintro e w9 ⟨rfl, rfl⟩))
                      go_roundw
                      case rel => exact ⟨k + 1, by omega, by go_num, by trivial⟩
                      case measure => simp [intOf]; omega
              · have hkn : k = ps.length := by omega
                subst hkn
                clear hk hlt
                go_wp2
                go_ret
                exact ⟨rfl, HB8.out⟩
          · have e0 : (eb != 0) = true := by simpa using hg
            clear hg
            go_wp2
            go_ret
            exact ⟨rfl, HB7.out⟩
        · have e0 : (er != 0) = true := by simpa using hr
          clear hr
          go_wp2
          go_ret
          exact ⟨rfl, HB7.out⟩
end

end Go.Proofs.YtihpoecdnchioaaGreatDoor
