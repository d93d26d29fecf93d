/- The walk of law14.NormOthers. No conditions. -/
import Derived.Test.YtihpoecdnchioaaGreatDoorHead
import Derived.Test.YtihpoecdnchioaaGreatDoorPl14
import Derived.Test.YtihpoecdnchioaaGreatDoorPvSet
import Derived.Test.YtihpoecdnchioaaGreatDoorTurn
import Derived.Maps.AppendAt
import Derived.Laws.OwnMore
import Derived.BigQuiet
import Derived.Deep.RegionHeld3
namespace Go.Proofs.YtihpoecdnchioaaGreatDoor
open Go.RowKit Tj

/-- the cells of a box of a law -/
def K3 (W : World) (H : Nat) (v0 v1 v2 : Value) : Prop := W.cell? ⟨H, 0, none⟩ = some v0 ∧ W.cell? ⟨H, 1, none⟩ = some v1 ∧ W.cell? ⟨H, 2, none⟩ = some v2
theorem k3_up {W W' : World} {B H : Nat} {v0 v1 v2 : Value} (h : K3 W H v0 v1 v2) (hb : Below B W W') (hB : H < B) : K3 W' H v0 v1 v2 :=
  ⟨(hb.cell (p := ⟨H, 0, none⟩) hB).trans h.1, (hb.cell (p := ⟨H, 1, none⟩) hB).trans h.2.1, (hb.cell (p := ⟨H, 2, none⟩) hB).trans h.2.2⟩

/-- a row of no cells, just laid -/
theorem own_none (W : World) (base : Nat) (e size : Nat) (hb : base ≤ W.heap.size) : (W.alloc (.cells #[] e)).ownsRow base e size (.slice (some ⟨W.heap.size, 0, none⟩) 0 0) 0 [] :=
  ⟨by simp, .inr ⟨W.heap.size, 0, #[], rfl, hb, World.alloc_heap_new W _, Nat.le_refl _, Nat.zero_le _, by simp, by simp⟩⟩
theorem own_here {W : World} {base e size n : Nat} {v : Value} {xs : List Value} (h : W.ownsRow base e size v n xs) (hn : 0 < n) : ∃ g cap, v = .slice (some ⟨g, 0, none⟩) n cap ∧ base ≤ g ∧ g < W.heap.size ∧ n ≤ cap ∧ cap ≤ maxLen := by
  rcases h.2 with ⟨_, h0⟩ | ⟨g, cap, cur, hv, h1, h2, h3, h4, _⟩
  · omega
  · exact ⟨g, cap, hv, h1, (Array.getElem?_eq_some_iff.1 h2).1, h3, h4⟩

/-! ## rows of strings: laid, appended to -/

theorem run_build_strs0 (w : World) : (Instr.buildSlice 32 0 #[]).run Tryz.prog w = .ok (.slice (some ⟨w.heap.size, 0, none⟩) 0 0) (w.alloc (.cells #[] 9)) := by go_simp
theorem run_build_str1 (s : ByteArray) (w : World) : (Instr.buildSlice 32 1 #[(0, .string s)]).run Tryz.prog w = .ok (.slice (some ⟨w.heap.size, 0, none⟩) 1 1) (w.alloc (.cells #[.string s] 9)) := by go_simp
section
variable {ops : Array Oper} {o : Oper} {a : Act} {w : World} {K : Act → World → Prop} {Q : Exit → Act → World → Prop} {E : Prop}
theorem step_build_strs0 (hgd : o.guard = none) (ho : o.op = .buildSlice 32 0 #[]) (h : K (a.put o.dst (.slice (some ⟨w.heap.size, 0, none⟩) 0 0)) (w.alloc (.cells #[] 9))) :
    if Region.wanted o (yielded ops a.tmps) = true then Oper.wp Tryz.prog o a w K Q else E := by
  rw [if_pos (by simp [Region.wanted, hgd])]
  unfold Oper.wp execOp
  simp only [ho, List.map_toArray, List.map_nil, Sem.run_bind, run_build_strs0, Result.andThen_ok, Sem.run_pure]
  exact h
theorem step_build_str1 (hgd : o.guard = none) (x : Operand) (ho : o.op = .buildSlice 32 1 #[(0, x)]) (s : ByteArray) (hx : a.eval x = .string s) (h : K (a.put o.dst (.slice (some ⟨w.heap.size, 0, none⟩) 1 1)) (w.alloc (.cells #[.string s] 9))) :
    if Region.wanted o (yielded ops a.tmps) = true then Oper.wp Tryz.prog o a w K Q else E := by
  rw [if_pos (by simp [Region.wanted, hgd])]
  unfold Oper.wp execOp
  simp only [ho, List.map_toArray, List.map_cons, List.map_nil, hx, Sem.run_bind, run_build_str1, Result.andThen_ok, Sem.run_pure]
  exact h
end
theorem run_app_none {w : World} {base e size n : Nat} {t ty : TypeId} {i : TypeInfo} {v : Value} {xs : List Value} (ht : Tryz.prog.underlying t = some (.slice e)) (hi : Tryz.prog.info? e = some i) (hown : w.ownsRow base e size v n xs) (c : Nat) :
    (Builtin.append_ #[t, t] ty #[v, .slice none 0 c]).run Tryz.prog w = .ok v w := by
  rcases hown.2 with ⟨rfl, rfl⟩ | ⟨g, cap, cur, rfl, _, _, hnc, _⟩
  · simp [Builtin.append_, run_underlying ht, sizeOf, typeInfo, hi, Builtin.lenOf, Builtin.firstCells]
  · simp [Builtin.append_, run_underlying ht, sizeOf, typeInfo, hi, Builtin.lenOf, Builtin.firstCells, hnc, storeCells]
/-- strings are appended to a row of strings of the call's own -/
theorem run_app_strs {w : World} {base n c : Nat} {ty : TypeId} {v : Value} {l m : List ByteArray} {ao : Option Addr} (hown : w.ownsRow base 9 1 v n (l.map Value.string)) (hm : m = [] ∨ ∃ ad, ao = some ad ∧ ∀ j u, (m.map Value.string)[j]? = some u → w.cell? (ad.add j) = some u)
    (hlen : n + m.length ≤ 10000) (hb : base ≤ w.heap.size) :
    ∃ v' w', (Builtin.append_ #[32, 32] ty #[v, .slice ao m.length c]).run Tryz.prog w = .ok v' w' ∧ w'.ownsRow base 9 1 v' (n + m.length) ((l ++ m).map Value.string) ∧ w.grownBy w' v.ownBlock ∧ (v'.ownBlock = v.ownBlock ∨ v'.ownBlock = some w.heap.size) := by
  obtain ⟨i9, hi9, hx9, hy9, hz9⟩ := info_parts strInfo
  have key : ∀ ad, (∀ j u, (m.map Value.string)[j]? = some u → w.cell? (ad.add j) = some u) → ∃ v' w', (Builtin.append_ #[32, 32] ty #[v, .slice (some ad) m.length c]).run Tryz.prog w = .ok v' w' ∧ w'.ownsRow base 9 1 v' (n + m.length) ((l ++ m).map Value.string) ∧ w.grownBy w' v.ownBlock ∧ (v'.ownBlock = v.ownBlock ∨ v'.ownBlock = some w.heap.size) := fun ad hn => by
    obtain ⟨v', w', h1, h2, h3, _, h5⟩ := run_append_own_at (P := Tryz.prog) w base 32 ty 9 i9 _ 1 16 Tryz.underlying32 hi9 hx9 hy9 hz9 rfl (by decide) v n _ hown ad m.length c (m.map Value.string) (by simp) hn (fun u hu => by obtain ⟨s, _, rfl⟩ := List.mem_map.1 hu; rfl) (by unfold maxLen; omega) (by omega) hb
    exact ⟨v', w', h1, by rw [List.map_append]; exact h2, h3, h5⟩
  rcases hm with rfl | ⟨ad, rfl, hn⟩
  · cases ao with
    | some ad => exact key ad (fun j u h => by simp at h)
    | none => exact ⟨v, w, run_app_none Tryz.underlying32 hi9 hown c, by simpa using hown, ⟨rfl, rfl, rfl, Nat.le_refl _, fun _ _ _ => rfl⟩, .inl rfl⟩
  · exact key ad hn
theorem step_app_strs {ops : Array Oper} {o : Oper} {a : Act} {w : World} {K : Act → World → Prop} {Q : Exit → Act → World → Prop} {E : Prop} (hgd : o.guard = none) (x y : Operand) (ho : o.op = .call { callee := .builtin .append, args := #[x, y], argTypes := #[32, 32] })
    (base : Nat) (v : Value) (n : Nat) (l : List ByteArray) (hv : a.eval x = v) (hown : w.ownsRow base 9 1 v n (l.map Value.string)) (m : List ByteArray) (ao : Option Addr) (c : Nat) (hy : a.eval y = .slice ao m.length c)
    (hm : m = [] ∨ ∃ ad, ao = some ad ∧ ∀ j u, (m.map Value.string)[j]? = some u → w.cell? (ad.add j) = some u) (hlen : n + m.length ≤ 10000) (hb : base ≤ w.heap.size)
    (h : ∀ v' w', w'.ownsRow base 9 1 v' (n + m.length) ((l ++ m).map Value.string) → w.grownBy w' v.ownBlock → (v'.ownBlock = v.ownBlock ∨ v'.ownBlock = some w.heap.size) → K (a.put o.dst v') w') :
    if Region.wanted o (yielded ops a.tmps) = true then Oper.wp Tryz.prog o a w K Q else E := by
  rw [if_pos (by simp [Region.wanted, hgd])]
  obtain ⟨v', w', hr, h2, h3, h5⟩ := run_app_strs (ty := o.type) (c := c) hown hm hlen hb
  unfold Oper.wp execOp
  simp only [ho, resolve, invoke, builtin, Sem.run_bind, Sem.run_pure, Result.andThen_ok, List.map_toArray, List.map_cons, List.map_nil, hv, hy, hr]
  exact h v' w' h2 h3 h5
theorem strs_src {W : World} {B c : Nat} {l : List ByteArray} {ao : Option Addr} (h : StrsIn W B l (.slice ao l.length c)) : l = [] ∨ ∃ ad, ao = some ad ∧ ∀ j u, (l.map Value.string)[j]? = some u → W.cell? (ad.add j) = some u := by
  by_cases hl : l = []
  · exact .inl hl
  · obtain ⟨ao', cap', hv, _, _, h4⟩ := h
    obtain ⟨b, off, ha, hlt, hc⟩ := h4 hl
    simp only [Value.slice.injEq] at hv
    refine .inr ⟨⟨b, off, none⟩, by rw [hv.1, ha], fun j u hj => ?_⟩
    rw [List.getElem?_map] at hj
    obtain ⟨s, hs, rfl⟩ := Option.map_eq_some_iff.1 hj
    obtain ⟨hj2, rfl⟩ := List.getElem?_eq_some_iff.1 hs
    have := hc j hj2
    rw [Addr.add_mid]
    simpa [OneR] using this
theorem str_src {W : World} {X : Nat} {nm : ByteArray} (h : Blk W X 9 #[.string nm]) : ∀ j u, ([nm].map Value.string)[j]? = some u → W.cell? ((⟨X, 0, none⟩ : Addr).add j) = some u := by
  intro j u hj
  rw [Addr.add_mid, Nat.zero_add, h.cell]
  simpa using hj

/-! ## what the region leaves -/

def OthP (wa wx : World) (base g5 cap5 : Nat) (xs : List PvA) (i : Nat) (x : PvA) (nm : ByteArray) : Prop :=
  ∃ ao cap, wx.ownsRow base 49 23 (.slice (some ⟨g5, 0, none⟩) xs.length cap5) xs.length ((xs.set i ⟨{ x.p with except := x.p.except ++ [nm] }, x.ak, x.ck, ao, cap⟩).flatMap PvA.cells) ∧ Below base wa wx ∧
    StrsIn wx wx.heap.size (x.p.except ++ [nm]) (.slice ao (x.p.except ++ [nm]).length cap)
theorem oth_post {wa wm : World} {base g5 cap5 i g c : Nat} {xs : List PvA} {x : PvA} {nm : ByteArray} (hi : i < xs.length) (hx : xs[i] = x) (hrow : wa.ownsRow base 49 23 (.slice (some ⟨g5, 0, none⟩) xs.length cap5) xs.length (xs.flatMap PvA.cells))
    (hC : Below wa.heap.size wa wm) (hown : wm.ownsRow wa.heap.size 9 1 (.slice (some ⟨g, 0, none⟩) (x.p.except.length + 1) c) (x.p.except.length + 1) ((x.p.except ++ [nm]).map Value.string)) (hB : base ≤ g5) (hBw : base ≤ wa.heap.size) :
    OthP wa (wm.setCell ⟨g5, i * 23 + 10, none⟩ (.slice (some ⟨g, 0, none⟩) (x.p.except.length + 1) c)) base g5 cap5 xs i x nm := by
  subst hx
  have hg5 : g5 < wa.heap.size := (hrow.lt g5 rfl).2
  have hrm := own_block hrow (fun g' hg' => by simp only [Value.ownBlock, Option.some.injEq] at hg'; subst hg'; exact hC.block _ hg5)
  have hl : (xs[i].p.except ++ [nm]).length = xs[i].p.except.length + 1 := by simp
  have h := own_exc hrm i hi (xs[i].p.except ++ [nm]) (some ⟨g, 0, none⟩) c
  rw [hl] at h
  refine ⟨some ⟨g, 0, none⟩, c, h, (hC.mono hBw).setCell (p := ⟨g5, _, none⟩) hB _, ?_⟩
  have hs := own_struck hown ⟨g5, i * 23 + 10, none⟩ (.slice (some ⟨g, 0, none⟩) (xs[i].p.except.length + 1) c) (fun g' e => by
    have := (hown.lt g' e).1
    show g' ≠ g5
    omega)
  have hs2 : (wm.setCell ⟨g5, i * 23 + 10, none⟩ (.slice (some ⟨g, 0, none⟩) (xs[i].p.except.length + 1) c)).ownsRow wa.heap.size 9 1 (.slice (some ⟨g, 0, none⟩) (xs[i].p.except ++ [nm]).length c) (xs[i].p.except ++ [nm]).length ((xs[i].p.except ++ [nm]).map Value.string) := by rw [hl]; exact hs
  exact own_strs hs2 (Nat.le_refl _)

theorem run_build_never (nm : ByteArray) (es : List ByteArray) (ae : Option Addr) (ce : Nat) (w : World) : (Instr.build 49 #[(0, .string nm), (5, .agg #[.int .i64 2, .string ⟨#[]⟩, .int .i64 0, .int .i64 0, .slice none 0 0]), (6, .slice ae es.length ce)]).run Tryz.prog w = .ok (.agg (pvC (neverP nm es) none 0 ae ce).toArray) w := by
  kernel_rfl
theorem wpList_build_never {ops : Array Oper} {rest : List Oper} {o : Oper} {a : Act} {w : World} {Q : Exit → Act → World → Prop} (hgd : o.guard = none) (x y z : Operand) (ho : o.op = .build 49 #[(0, x), (5, y), (6, z)]) (nm : ByteArray) (es : List ByteArray) (ae : Option Addr) (ce : Nat)
    (hx : a.eval x = .string nm) (hy : a.eval y = .agg #[.int .i64 2, .string ⟨#[]⟩, .int .i64 0, .int .i64 0, .slice none 0 0]) (hz : a.eval z = .slice ae es.length ce) (h : wpList Tryz.prog ops Q rest (a.put o.dst (.agg (pvC (neverP nm es) none 0 ae ce).toArray)) w) : wpList Tryz.prog ops Q (o :: rest) a w :=
  wpList_plain hgd fun K hK => by
    unfold Oper.wp execOp
    simp only [ho, List.map_toArray, List.map_cons, List.map_nil, hx, hy, hz, Sem.run_bind, run_build_never, Result.andThen_ok, Sem.run_pure]
    exact hK _ _ h

theorem more_exc {w W : World} {B base g5 cap5 : Nat} {xs : List PvA} {ps : List Pv} {i : Nat} {nm : ByteArray} {ao : Option Addr} {cap : Nat} {u1 : Value} {d : List Fa} {asn : Option Addr} {ns cs : Nat} (hi : i < xs.length) (hps : xs.map (·.p) = ps) (hip : i < ps.length)
    (hrow : W.ownsRow base 49 23 (.slice (some ⟨g5, 0, none⟩) xs.length cap5) xs.length ((xs.set i ⟨{ xs[i].p with except := xs[i].p.except ++ [nm] }, xs[i].ak, xs[i].ck, ao, cap⟩).flatMap PvA.cells)) (hx : ∀ x ∈ xs, x.Ok w B) (hb : Below B w W) (hB : B ≤ W.heap.size)
    (hs : StrsIn W W.heap.size (xs[i].p.except ++ [nm]) (.slice ao (xs[i].p.except ++ [nm]).length cap)) (hd : SlIn FaR 4 w B d u1) :
    LawIn W W.heap.size d (ps.set i (exP nm ps[i])) (.agg #[u1, .slice (some ⟨g5, 0, none⟩) ps.length cap5, .slice asn ns cs]) := by
  subst hps
  have hlen : (xs.set i ⟨{ xs[i].p with except := xs[i].p.except ++ [nm] }, xs[i].ak, xs[i].ck, ao, cap⟩).length = xs.length := List.length_set
  have hlen2 : xs.length = (xs.map (·.p)).length := by simp
  rw [← hlen] at hrow
  have hp := own_pvs hrow (Nat.le_refl _) (fun y hy => by
    rcases List.mem_or_eq_of_mem_set hy with hm | rfl
    · exact ((hx y hm).up hb).mono hB
    · obtain ⟨h1, _, h3⟩ := ((hx xs[i] (List.getElem_mem hi)).up hb).mono hB
      exact ⟨h1, hs, h3⟩)
  rw [List.map_set, hlen, hlen2] at hp
  have e : (xs.map (·.p))[i] = xs[i].p := List.getElem_map _
  rw [e]
  exact ⟨u1, _, asn, ns, cs, rfl, (hd.below FaR.kept hb).mono FaR.mono hB, hp⟩
theorem more_never {w W : World} {B base : Nat} {xs : List PvA} {ps : List Pv} {nm : ByteArray} {es : List ByteArray} {ae : Option Addr} {ce : Nat} {v u1 : Value} {d : List Fa} {asn : Option Addr} {ns cs : Nat} (hps : xs.map (·.p) = ps)
    (hrow : W.ownsRow base 49 23 v (xs.length + 1) (xs.flatMap PvA.cells ++ pvC (neverP nm es) none 0 ae ce)) (hx : ∀ x ∈ xs, x.Ok w B) (hb : Below B w W) (hB : B ≤ W.heap.size) (hnm : nm.size ≤ maxLen) (hs : StrsIn w B es (.slice ae es.length ce)) (hd : SlIn FaR 4 w B d u1) :
    LawIn W W.heap.size d (ps ++ [neverP nm es]) (.agg #[u1, v, .slice asn ns cs]) := by
  subst hps
  have h : W.ownsRow base 49 23 v (xs ++ [(⟨neverP nm es, none, 0, ae, ce⟩ : PvA)]).length ((xs ++ [(⟨neverP nm es, none, 0, ae, ce⟩ : PvA)]).flatMap PvA.cells) := by
    rw [List.length_append, List.flatMap_append, List.flatMap_cons, List.flatMap_nil, List.append_nil]
    exact hrow
  have hp := own_pvs h (Nat.le_refl _) (fun y hy => by
    rcases List.mem_append.1 hy with hm | hm
    · exact ((hx y hm).up hb).mono hB
    · rw [List.mem_singleton] at hm
      rw [hm]
      show Fo.In W W.heap.size (.mk 2 ⟨#[]⟩ 0 0 []) _ ∧ StrsIn W W.heap.size es _ ∧ nm.size ≤ maxLen ∧ (ByteArray.mk #[]).size ≤ maxLen
      exact ⟨⟨none, 0, rfl, by unfold W64; decide, by unfold W64; decide, by unfold W64; decide, by decide, Nat.le_refl _, by decide, fun e => absurd rfl e⟩, SlIn.mono (OneR.mono _) hB (hs.below hb), hnm, Nat.zero_le _⟩)
  rw [List.map_append] at hp
  exact ⟨u1, _, asn, ns, cs, rfl, (hd.below FaR.kept hb).mono FaR.mono hB, hp⟩

section
set_option maxRecDepth 100000 in
set_option maxHeartbeats 8000000 in
theorem normOthers_any {d : List Fa} {ps : List Pv} {nm : ByteArray} {raw : Int} {es : List ByteArray} {c : List Int} {v ev cv : Value} (w : World) (hl : LawIn w w.heap.size d ps v) (hnm : nm.size ≤ maxLen) (hr0 : 0 ≤ raw) (hr1 : raw ≤ 255) (he : StrsIn w w.heap.size es ev) (hc : IntsIn w w.heap.size c cv) :
    Calls Tryz.prog 6 #[v, .string nm, .int .u8 raw, ev, cv] w fun e w' => e = .returned (.bool true) ∧ Below w.heap.size w w' := by
  have hl0 := hl
  obtain ⟨u1, u2, asn, ns, cs, rfl, hd, hp⟩ := hl
  obtain ⟨ad, cd, rfl, d1, d2, _⟩ := SlIn.shape hd
  obtain ⟨ap, cp, rfl, p1, p2, _⟩ := SlIn.shape hp
  have hc0 := hc
  obtain ⟨ac, cc, rfl, c1, c2, _⟩ := SlIn.shape hc
  have he0 := he
  obtain ⟨ae, ce, rfl, q1, q2, _⟩ := SlIn.shape he
  unfold maxLen at p2 hnm q2
  have hbw : Below w.heap.size w (w.alloc (.cells #[.slice ad d.length cd, .slice ap ps.length cp, .slice asn ns cs] 28)) := (Below.refl _ _).alloc (Nat.le_refl _) _
  have K0 := Blk.new w 28 #[.slice ad d.length cd, .slice ap ps.length cp, .slice asn ns cs]
  have HX : Hid (K3 (w.alloc (.cells #[.slice ad d.length cd, .slice ap ps.length cp, .slice asn ns cs] 28)) w.heap.size (.slice ad d.length cd) (.slice ap ps.length cp) (.slice asn ns cs)) := ⟨K0.cell 0, K0.cell 1, K0.cell 2⟩
  have HBW := Lib.hid hbw
  have HFEW := Lib.hid (fun W (hb : Below w.heap.size w W) => few_any d ps 30 _ W w.heap.size (by decide) (by decide) hb.size (hl0.below hb))
  cases hfw : fewL d ps 30 with
  | false =>
    rw [hfw] at HFEW
    clear hl0 hd hp hc hc0 he he0 hbw K0 hfw
    go_enter Tryz.func6, Tryz.ntmps6
    go_wp2_with (first
      | (go_at_call 10; refine (head_any _).mono ?_; rintro e w1 ⟨rfl, hb1⟩; have HY1 := Lib.hid (k3_up HX.out hb1 (by simp)); have HB1 := Lib.hid (HBW.out.trans (hb1.mono (by simp))); have hz1 := hb1.size; simp only [World.size_alloc] at hz1; obtain ⟨y0, y1, y2⟩ := HY1.out; clear hb1)
      | (go_at_call 11; refine (HFEW.out _ HB1.out).mono ?_; rintro e w2 ⟨rfl, hb2⟩; have HY2 := Lib.hid (k3_up HY1.out hb2 (by omega)); have HB2 := Lib.hid (HB1.out.trans (hb2.mono (by omega))); have hz2 := hb2.size; clear hb2 y0 y1 y2; obtain ⟨y0, y1, y2⟩ := HY2.out))
    go_ret
    exact ⟨rfl, HB2.out⟩
  | true =>
    obtain ⟨hn, hex, hsz⟩ := fewL_parts (n := 30) hfw
    obtain ⟨hex30, _⟩ := fewL_exc (n := 30) hfw
    rw [hfw] at HFEW
    by_cases hn1 : 100 < nm.size
    · have g1 : (100 : Int) < (nm.size : Int) := by omega
      clear hl0 hd hp hc hc0 he he0 hbw K0 hfw hex hsz hex30 hn1
      go_enter Tryz.func6, Tryz.ntmps6
      go_wp2_with (first
        | (go_at_call 10; refine (head_any _).mono ?_; rintro e w1 ⟨rfl, hb1⟩; have HY1 := Lib.hid (k3_up HX.out hb1 (by simp)); have HB1 := Lib.hid (HBW.out.trans (hb1.mono (by simp))); have hz1 := hb1.size; simp only [World.size_alloc] at hz1; obtain ⟨y0, y1, y2⟩ := HY1.out; clear hb1)
        | (go_at_call 11; refine (HFEW.out _ HB1.out).mono ?_; rintro e w2 ⟨rfl, hb2⟩; have HY2 := Lib.hid (k3_up HY1.out hb2 (by omega)); have HB2 := Lib.hid (HB1.out.trans (hb2.mono (by omega))); have hz2 := hb2.size; clear hb2 y0 y1 y2; obtain ⟨y0, y1, y2⟩ := HY2.out))
      go_ret
      exact ⟨rfl, HB2.out⟩
    have g1 : decide ((100 : Int) < (nm.size : Int)) = false := decide_eq_false (by omega)
    by_cases hn2 : 25 < es.length
    · have g2 : (25 : Int) < (es.length : Int) := by omega
      clear hl0 hd hp hc hc0 he he0 hbw K0 hfw hex hsz hex30 hn1 hn2
      go_enter Tryz.func6, Tryz.ntmps6
      go_wp2_with (first
        | (go_at_call 10; refine (head_any _).mono ?_; rintro e w1 ⟨rfl, hb1⟩; have HY1 := Lib.hid (k3_up HX.out hb1 (by simp)); have HB1 := Lib.hid (HBW.out.trans (hb1.mono (by simp))); have hz1 := hb1.size; simp only [World.size_alloc] at hz1; obtain ⟨y0, y1, y2⟩ := HY1.out; clear hb1)
        | (go_at_call 11; refine (HFEW.out _ HB1.out).mono ?_; rintro e w2 ⟨rfl, hb2⟩; have HY2 := Lib.hid (k3_up HY1.out hb2 (by omega)); have HB2 := Lib.hid (HB1.out.trans (hb2.mono (by omega))); have hz2 := hb2.size; clear hb2 y0 y1 y2; obtain ⟨y0, y1, y2⟩ := HY2.out))
      go_ret
      exact ⟨rfl, HB2.out⟩
    have g2 : decide ((25 : Int) < (es.length : Int)) = false := decide_eq_false (by omega)
    by_cases hpos : ps.length = 0
    · have hp0 : ((ps.length : Int) == 0) = true := by simp [hpos]
      clear hl0 hd hp hc hc0 he he0 hbw K0 hfw hex hsz hex30 hn1 hn2 hpos
      go_enter Tryz.func6, Tryz.ntmps6
      go_wp2_with (first
        | (go_at_call 10; refine (head_any _).mono ?_; rintro e w1 ⟨rfl, hb1⟩; have HY1 := Lib.hid (k3_up HX.out hb1 (by simp)); have HB1 := Lib.hid (HBW.out.trans (hb1.mono (by simp))); have hz1 := hb1.size; simp only [World.size_alloc] at hz1; obtain ⟨y0, y1, y2⟩ := HY1.out; clear hb1)
        | (go_at_call 11; refine (HFEW.out _ HB1.out).mono ?_; rintro e w2 ⟨rfl, hb2⟩; have HY2 := Lib.hid (k3_up HY1.out hb2 (by omega)); have HB2 := Lib.hid (HB1.out.trans (hb2.mono (by omega))); have hz2 := hb2.size; clear hb2 y0 y1 y2; obtain ⟨y0, y1, y2⟩ := HY2.out))
      go_ret
      exact ⟨rfl, HB2.out⟩
    have hp0 : ((ps.length : Int) == 0) = false := by simp [hpos]
    have hne : ps ≠ [] := fun e => hpos (by rw [e]; rfl)
    obtain ⟨b, off, xs, rfl, hbB, hxp, hxo, hxr⟩ := pvs_rows hp hne
    have hxl : xs.length = ps.length := by have := congrArg List.length hxp; simpa using this
    have hn3 : (1 : Int) ≤ ps.length := by omega
    have hn4 : (ps.length : Int) ≤ 30 := by omega
    have hpz : ¬ (ps.length : Int) = 0 := by omega
    obtain ⟨i, hi, him⟩ : ∃ i : Nat, i < ps.length ∧ raw % (ps.length : Int) = (i : Int) := by
      have h0 := Int.emod_nonneg raw hpz
      have h1 := Int.emod_lt_of_pos raw (show (0 : Int) < (ps.length : Int) by omega)
      exact ⟨(raw % (ps.length : Int)).toNat, by omega, by omega⟩
    obtain ⟨ip, zp, hip, hsp_, hzp, hzc, hbp⟩ := pv_info
    have HDF := Lib.hid hd
    have HP := Lib.hid hp
    have HE0 := Lib.hid he0
    have HRG := Lib.hid hxr
    clear hd hp hc he he0 hbw K0 hn1 hn2
    go_enter Tryz.func6, Tryz.ntmps6
    go_wp2_with (first
      | (go_at_call 10; refine (head_any _).mono ?_; rintro e w1 ⟨rfl, hb1⟩; have HY1 := Lib.hid (k3_up HX.out hb1 (by simp)); have HB1 := Lib.hid (HBW.out.trans (hb1.mono (by simp))); have hz1 := hb1.size; simp only [World.size_alloc] at hz1; obtain ⟨y0, y1, y2⟩ := HY1.out; clear hb1)
      | (go_at_call 11; refine (HFEW.out _ HB1.out).mono ?_; rintro e w2 ⟨rfl, hb2⟩; have HY2 := Lib.hid (k3_up HY1.out hb2 (by omega)); have HB2 := Lib.hid (HB1.out.trans (hb2.mono (by omega))); have hz2 := hb2.size; clear hb2 y0 y1 y2; obtain ⟨y0, y1, y2⟩ := HY2.out))
    go_loopw [12] (fun kv wr => ∃ k : Nat, k ≤ ps.length ∧ kv = .int .i64 k ∧ wr = w2 ∧ Hid (∀ j, ∀ h : j < ps.length, j < k → ps[j].id ≠ nm)) (fun kv _ => ps.length - (intOf kv).toNat)
    case atStart => exact ⟨0, Nat.zero_le _, rfl, rfl, fun j _ h => by omega⟩
    case round =>
      obtain ⟨k, hk, rfl, hww, hno⟩ := hrel
      obtain rfl : w2 = wr := hww.symm
      by_cases hlt : k < ps.length
      · obtain ⟨_, hbB2, bk, ck2, be, ce2, hr2, _⟩ := SlIn.get HP.out k hlt
        have ek := (HB2.out.cell (p := ⟨b, off + k * 23 + 0, none⟩) hbB2).trans (hr2 0 _ rfl)
        rw [Nat.add_zero] at ek
        have hnx : ps[k].id ≠ nm → ∀ j, ∀ h : j < ps.length, j < k + 1 → ps[j].id ≠ nm := fun hx j hj hjk => by
          by_cases e : j = k
          · subst e; exact hx
          · exact hno.out j hj (by omega)
        have HNX := Lib.hid hnx
        have k0 : (0 : Int) ≤ (k : Int) := Int.natCast_nonneg _
        have k1 : (k : Int) < (ps.length : Int) := by omega
        generalize ps[k].id = id at *
        clear hr2 hnx hno
        by_cases hq : id = nm
        · have hq1 : (id.toList == nm.toList) = true := by rw [hq]; simp
          clear hq
          go_wp2
          go_ret
          exact ⟨rfl, HB2.out⟩
        · have hq1 : (id.toList == nm.toList) = false := Bool.eq_false_iff.2 fun e => hq ((eqB_iff id nm).1 e)
          have HQ := Lib.hid (HNX.out hq)
          clear hq HNX
          go_wp2
          go_roundw
          case rel => exact ⟨k + 1, by omega, by go_num, by trivial, HQ⟩
          case measure => simp [intOf]; omega
      · have hkn : k = ps.length := by omega
        subst hkn
        have HNO : Hid (∀ p ∈ ps, p.id ≠ nm) := fun p hp => by
          obtain ⟨j, hj, rfl⟩ := List.getElem_of_mem hp
          exact hno.out j hj hj
        clear hno hk hlt
        go_upto_region 11 with (fail)
        rw [him]
        have hbb : Below w.heap.size w ((w2.alloc (.cells #[.slice ad d.length cd, .slice (some ⟨b, off, none⟩) ps.length cp, .slice asn ns cs] 28)).alloc (.cells #[] 49)) := (HB2.out.alloc (by omega) _).alloc (by simp; omega) _
        have HE : Hid (((w2.alloc (.cells #[.slice ad d.length cd, .slice (some ⟨b, off, none⟩) ps.length cp, .slice asn ns cs] 28)).alloc (.cells #[] 49)).ownsRow (w2.heap.size + 1) 49 23 (.slice (some ⟨w2.heap.size + 1, 0, none⟩) 0 0) 0 []) := by
          have h := own_none (w2.alloc (.cells #[.slice ad d.length cd, .slice (some ⟨b, off, none⟩) ps.length cp, .slice asn ns cs] 28)) (w2.heap.size + 1) 49 23 (by simp)
          simp only [World.size_alloc] at h
          exact h
        have HR : Hid (((w2.alloc (.cells #[.slice ad d.length cd, .slice (some ⟨b, off, none⟩) ps.length cp, .slice asn ns cs] 28)).alloc (.cells #[] 49)).rangeAt b off (xs.flatMap PvA.cells)) := fun j v hv => (hbb.cell (p := ⟨b, off + j, none⟩) hbB).trans (hxr j v hv)
        have hb25 : Below w2.heap.size w2 ((w2.alloc (.cells #[.slice ad d.length cd, .slice (some ⟨b, off, none⟩) ps.length cp, .slice asn ns cs] 28)).alloc (.cells #[] 49)) := ((Below.refl _ _).alloc (Nat.le_refl _) _).alloc (by simp) _
        have q1 := (hb25.cell (p := ⟨w.heap.size, 1, none⟩) (by show w.heap.size < _; omega)).trans y1
        have hfl : (xs.flatMap PvA.cells).length = ps.length * 23 := by rw [flat_len, hxl]
        go_upto_region 12 with (at_builtin; refine wpList_append_own_at _ (by rfl) (.tmp 66) (.tmp 68) 25 (by rfl) (w2.heap.size + 1) 49 ip zp 23 312 Tryz.underlying25 hip hzp hsp_ hbp hzc (by omega) (.slice (some ⟨w2.heap.size + 1, 0, none⟩) 0 0) 0 [] (by rfl) HE.out ⟨b, off, none⟩ ps.length cp (xs.flatMap PvA.cells) (by rfl) hfl (news_range HR.out) (flat_one xs) (by unfold maxLen; omega) (by omega) (by simp) ?_; intro v5 w5 hown5 hgrow5 hnil5 hat5; rw [Nat.zero_add, List.nil_append] at hown5; obtain ⟨g5, cap5, rfl, hg1, hg2, hg3, hg4⟩ := own_here hown5 (by omega); have KM := ((Blk.new w2 28 #[.slice ad d.length cd, .slice (some ⟨b, off, none⟩) ps.length cp, .slice asn ns cs]).below ((Below.refl _ _).alloc (Nat.le_refl _) (.cells #[] 49))).grown hgrow5 (by simp [Value.ownBlock]); have s1 := KM.cell 1; have s2 := KM.frozen 1; have HG5 := Lib.hid hgrow5; have HKM := Lib.hid KM; clear hnil5 hat5 hgrow5 KM)
        have HB5 : Hid (Below w2.heap.size w2 w5) := hb25.grown HG5.out (by simp; omega) (fun g e => by simp only [Value.ownBlock, Option.some.injEq] at e; omega)
        have hb2a : Below w2.heap.size w2 (w5.setCell ⟨w2.heap.size, 1, none⟩ (.slice (some ⟨g5, 0, none⟩) ps.length cap5)) := HB5.out.setCell (p := ⟨w2.heap.size, 1, none⟩) (Nat.le_refl _) _
        have hrow := own_struck hown5 ⟨w2.heap.size, 1, none⟩ (.slice (some ⟨g5, 0, none⟩) ps.length cap5) (fun g e => by simp only [Value.ownBlock, Option.some.injEq] at e; subst e; show g5 ≠ w2.heap.size; omega)
        have hkm := HKM.out.set 1 (.slice (some ⟨g5, 0, none⟩) ps.length cap5)
        have hsz5 : (w5.setCell ⟨w2.heap.size, 1, none⟩ (.slice (some ⟨g5, 0, none⟩) ps.length cap5)).heap.size = w5.heap.size := World.size_setCell _ _ _
        clear y0 y1 y2 q1 s1 s2 hown5 HKM HG5
        generalize w5.setCell ⟨w2.heap.size, 1, none⟩ (.slice (some ⟨g5, 0, none⟩) ps.length cap5) = wa at *
        have HA : Hid (K3 wa w.heap.size _ _ _) := k3_up HY2.out hb2a (by omega)
        have HBA := Lib.hid (HB2.out.trans (hb2a.mono (by omega)))
        have y1 := HA.out.2.1
        have m1 : wa.cell? ⟨w2.heap.size, 1, none⟩ = some (.slice (some ⟨g5, 0, none⟩) ps.length cap5) := hkm.cell 1
        have hxi : i < xs.length := by omega
        have hcell : ∀ j u, j < 23 → xs[i].cells[j]? = some u → wa.cell? ⟨b, off + i * 23 + j, none⟩ = some u ∧ wa.cell? ⟨g5, i * 23 + j, none⟩ = some u ∧ wa.frozen? ⟨g5, i * 23 + j, none⟩ = false := fun j u hj hu => by
          have h1 := (flat_get xs i j hxi hj).trans hu
          have h2 := (HBA.out.cell (p := ⟨b, off + (i * 23 + j), none⟩) hbB).trans (hxr (i * 23 + j) u h1)
          rw [← Nat.add_assoc] at h2
          have h3 := own_at (show wa.ownsRow _ _ _ (.slice (some ⟨g5, 0, none⟩) ps.length cap5) ps.length _ from hrow) h1
          exact ⟨h2, h3⟩
        obtain ⟨c10, k10a, z10a⟩ := hcell 10 _ (by decide) rfl
        have hxk := (hxo xs[i] (List.getElem_mem hxi)).2.1
        have hxe : xs[i].p.except.length ≤ 30 := hex30 _ (by rw [← hxp]; exact List.mem_map_of_mem (List.getElem_mem hxi))
        have hfn := hrow
        rw [← hxl] at hfn
        have HROW := Lib.hid hfn
        have HKM := Lib.hid hkm
        have hga : g5 < wa.heap.size := by omega
        have i0 : (0 : Int) ≤ (i : Int) := Int.natCast_nonneg _
        have i1 : (i : Int) < (ps.length : Int) := by omega
        generalize hxx : xs[i] = x at *
        have HE : Hid (∀ W, Below wa.heap.size wa W → StrsIn W w.heap.size x.p.except (.slice x.ae x.p.except.length x.ce)) := fun W hb => hxk.below (HBA.out.trans (hb.mono (by omega)))
        have HXO := Lib.hid hxo
        have HXP := Lib.hid hxp
        clear hcell hxr hrow hkm hxk hfn hxo hxp hb2a hsz5
        go_cut [84] (fun _ wx => Hid (OthP wa wx (w2.heap.size + 1) g5 cap5 xs i x nm))
        case first =>
              refine wp_region_held_drew (S := (fun w' : World => Below (w2.heap.size + 1) wa w')) (by kernel_rfl) (World.drewN_below _ _ 1) (fun hHeld => ?_)
              have HC : Hid (Below wa.heap.size wa wa.drew) := World.drewN_below _ _ 1
              refine wpAnyH_take (i := 0) (oi := { dst := some 71, op := Go.Op.fieldAddr 28 (Go.Operand.tmp 14) 1, type := 0, pos := "law.go:123", after := #[], guard := none }) (v := ?v0) rfl (by kernel_rfl) (by kernel_rfl) (by kernel_rfl) (fun _ _ _ h => h) (Or.inl ⟨by rfl, ?y0⟩) (by assumption) ?_
              case y0 => (intro w9 hSw; have e1 := (hSw.cell (p := ⟨w.heap.size, 1, none⟩) (by show w.heap.size < _; omega)).trans y1; have e2 := (hSw.cell (p := ⟨w2.heap.size, 1, none⟩) (Nat.lt_succ_self _)).trans m1; have e3 := (hSw.cell (p := ⟨b, off + i * 23 + 10, none⟩) (by show b < _; omega)).trans c10; go_simp; try with_reducible rfl)
              try simp only [Act.put, List.setIfInBounds_toArray, List.set_cons_zero, List.set_cons_succ]
              refine wpAnyH_take (i := 1) (oi := { dst := some 72, op := Go.Op.load 25 (Go.Operand.tmp 71), type := 25, pos := "law.go:123", after := #[{ on := 0, ground := Go.Ground.data }], guard := none }) (v := ?v1) rfl (by kernel_rfl) (by kernel_rfl) (by kernel_rfl) (fun _ _ _ h => h) (Or.inl ⟨by rfl, ?y1⟩) (by assumption) ?_
              case y1 => (intro w9 hSw; have e1 := (hSw.cell (p := ⟨w.heap.size, 1, none⟩) (by show w.heap.size < _; omega)).trans y1; have e2 := (hSw.cell (p := ⟨w2.heap.size, 1, none⟩) (Nat.lt_succ_self _)).trans m1; have e3 := (hSw.cell (p := ⟨b, off + i * 23 + 10, none⟩) (by show b < _; omega)).trans c10; go_simp; try with_reducible rfl)
              try simp only [Act.put, List.setIfInBounds_toArray, List.set_cons_zero, List.set_cons_succ]
              refine wpAnyH_take (i := 2) (oi := { dst := some 73, op := Go.Op.move (Go.Operand.tmp 13), type := 3, pos := "law.go:123", after := #[], guard := none }) (v := ?v2) rfl (by kernel_rfl) (by kernel_rfl) (by kernel_rfl) (fun _ _ _ h => h) (Or.inl ⟨by rfl, ?y2⟩) (by assumption) ?_
              case y2 => (intro w9 hSw; have e1 := (hSw.cell (p := ⟨w.heap.size, 1, none⟩) (by show w.heap.size < _; omega)).trans y1; have e2 := (hSw.cell (p := ⟨w2.heap.size, 1, none⟩) (Nat.lt_succ_self _)).trans m1; have e3 := (hSw.cell (p := ⟨b, off + i * 23 + 10, none⟩) (by show b < _; omega)).trans c10; go_simp; try with_reducible rfl)
              try simp only [Act.put, List.setIfInBounds_toArray, List.set_cons_zero, List.set_cons_succ]
              refine wpAnyH_take (i := 4) (oi := { dst := some 75, op := Go.Op.fieldAddr 28 (Go.Operand.tmp 5) 1, type := 0, pos := "law.go:123", after := #[], guard := none }) (v := ?v4) rfl (by kernel_rfl) (by kernel_rfl) (by kernel_rfl) (fun _ _ _ h => h) (Or.inl ⟨by rfl, ?y4⟩) (by assumption) ?_
              case y4 => (intro w9 hSw; have e1 := (hSw.cell (p := ⟨w.heap.size, 1, none⟩) (by show w.heap.size < _; omega)).trans y1; have e2 := (hSw.cell (p := ⟨w2.heap.size, 1, none⟩) (Nat.lt_succ_self _)).trans m1; have e3 := (hSw.cell (p := ⟨b, off + i * 23 + 10, none⟩) (by show b < _; omega)).trans c10; go_simp; try with_reducible rfl)
              try simp only [Act.put, List.setIfInBounds_toArray, List.set_cons_zero, List.set_cons_succ]
              refine wpAnyH_take (i := 5) (oi := { dst := some 76, op := Go.Op.load 25 (Go.Operand.tmp 75), type := 25, pos := "law.go:123", after := #[{ on := 4, ground := Go.Ground.data }], guard := none }) (v := ?v5) rfl (by kernel_rfl) (by kernel_rfl) (by kernel_rfl) (fun _ _ _ h => h) (Or.inl ⟨by rfl, ?y5⟩) (by assumption) ?_
              case y5 => (intro w9 hSw; have e1 := (hSw.cell (p := ⟨w.heap.size, 1, none⟩) (by show w.heap.size < _; omega)).trans y1; have e2 := (hSw.cell (p := ⟨w2.heap.size, 1, none⟩) (Nat.lt_succ_self _)).trans m1; have e3 := (hSw.cell (p := ⟨b, off + i * 23 + 10, none⟩) (by show b < _; omega)).trans c10; go_simp; try with_reducible rfl)
              try simp only [Act.put, List.setIfInBounds_toArray, List.set_cons_zero, List.set_cons_succ]
              refine wpAnyH_take (i := 6) (oi := { dst := some 77, op := Go.Op.move (Go.Operand.tmp 13), type := 3, pos := "law.go:123", after := #[], guard := none }) (v := ?v6) rfl (by kernel_rfl) (by kernel_rfl) (by kernel_rfl) (fun _ _ _ h => h) (Or.inl ⟨by rfl, ?y6⟩) (by assumption) ?_
              case y6 => (intro w9 hSw; have e1 := (hSw.cell (p := ⟨w.heap.size, 1, none⟩) (by show w.heap.size < _; omega)).trans y1; have e2 := (hSw.cell (p := ⟨w2.heap.size, 1, none⟩) (Nat.lt_succ_self _)).trans m1; have e3 := (hSw.cell (p := ⟨b, off + i * 23 + 10, none⟩) (by show b < _; omega)).trans c10; go_simp; try with_reducible rfl)
              try simp only [Act.put, List.setIfInBounds_toArray, List.set_cons_zero, List.set_cons_succ]
              refine wpAnyH_take (i := 7) (oi := { dst := some 78, op := Go.Op.indexAddr 25 (Go.Operand.tmp 76) (Go.Operand.tmp 77), type := 0, pos := "law.go:123", after := #[{ on := 5, ground := Go.Ground.data }, { on := 6, ground := Go.Ground.data }], guard := none }) (v := ?v7) rfl (by kernel_rfl) (by kernel_rfl) (by kernel_rfl) (fun _ _ _ h => h) (Or.inl ⟨by rfl, ?y7⟩) (by assumption) ?_
              case y7 => (intro w9 hSw; have e1 := (hSw.cell (p := ⟨w.heap.size, 1, none⟩) (by show w.heap.size < _; omega)).trans y1; have e2 := (hSw.cell (p := ⟨w2.heap.size, 1, none⟩) (Nat.lt_succ_self _)).trans m1; have e3 := (hSw.cell (p := ⟨b, off + i * 23 + 10, none⟩) (by show b < _; omega)).trans c10; go_simp; try with_reducible rfl)
              try simp only [Act.put, List.setIfInBounds_toArray, List.set_cons_zero, List.set_cons_succ]
              refine wpAnyH_take (i := 8) (oi := { dst := some 79, op := Go.Op.fieldAddr 49 (Go.Operand.tmp 78) 6, type := 0, pos := "law.go:123", after := #[{ on := 7, ground := Go.Ground.data }], guard := none }) (v := ?v8) rfl (by kernel_rfl) (by kernel_rfl) (by kernel_rfl) (fun _ _ _ h => h) (Or.inl ⟨by rfl, ?y8⟩) (by assumption) ?_
              case y8 => (intro w9 hSw; have e1 := (hSw.cell (p := ⟨w.heap.size, 1, none⟩) (by show w.heap.size < _; omega)).trans y1; have e2 := (hSw.cell (p := ⟨w2.heap.size, 1, none⟩) (Nat.lt_succ_self _)).trans m1; have e3 := (hSw.cell (p := ⟨b, off + i * 23 + 10, none⟩) (by show b < _; omega)).trans c10; go_simp; try with_reducible rfl)
              try simp only [Act.put, List.setIfInBounds_toArray, List.set_cons_zero, List.set_cons_succ]
              refine wpAnyH_take (i := 9) (oi := { dst := some 80, op := Go.Op.load 32 (Go.Operand.tmp 79), type := 32, pos := "law.go:123", after := #[{ on := 8, ground := Go.Ground.data }], guard := none }) (v := ?v9) rfl (by kernel_rfl) (by kernel_rfl) (by kernel_rfl) (fun _ _ _ h => h) (Or.inl ⟨by rfl, ?y9⟩) (by assumption) ?_
              case y9 => (intro w9 hSw; have e1 := (hSw.cell (p := ⟨w.heap.size, 1, none⟩) (by show w.heap.size < _; omega)).trans y1; have e2 := (hSw.cell (p := ⟨w2.heap.size, 1, none⟩) (Nat.lt_succ_self _)).trans m1; have e3 := (hSw.cell (p := ⟨b, off + i * 23 + 10, none⟩) (by show b < _; omega)).trans c10; go_simp; try with_reducible rfl)
              try simp only [Act.put, List.setIfInBounds_toArray, List.set_cons_zero, List.set_cons_succ]
              refine wpAnyH_take (i := 11) (oi := { dst := some 82, op := Go.Op.move (Go.Operand.tmp 1), type := 9, pos := "law.go:123", after := #[], guard := none }) (v := ?v11) rfl (by kernel_rfl) (by kernel_rfl) (by kernel_rfl) (fun _ _ _ h => h) (Or.inl ⟨by rfl, ?y11⟩) (by assumption) ?_
              case y11 => (intro w9 hSw; have e1 := (hSw.cell (p := ⟨w.heap.size, 1, none⟩) (by show w.heap.size < _; omega)).trans y1; have e2 := (hSw.cell (p := ⟨w2.heap.size, 1, none⟩) (Nat.lt_succ_self _)).trans m1; have e3 := (hSw.cell (p := ⟨b, off + i * 23 + 10, none⟩) (by show b < _; omega)).trans c10; go_simp; try with_reducible rfl)
              try simp only [Act.put, List.setIfInBounds_toArray, List.set_cons_zero, List.set_cons_succ]
              refine wpAnyH_ready (rs := [3, 12]) (by kernel_rfl) (by simp) ?_
              refine AllReadyH.cons (o := { dst := some 74, op := Go.Op.buildSlice 32 0 #[], type := 32, pos := "law.go:123", after := #[], guard := none }) rfl (fun K hK => ?_) (AllReadyH.cons (o := { dst := some 83, op := Go.Op.buildSlice 32 1 #[(0, Go.Operand.tmp 82)], type := 32, pos := "law.go:123", after := #[{ on := 11, ground := Go.Ground.data }], guard := none }) rfl (fun K hK => ?_) AllReadyH.nil)
              · skip
                refine step_build_strs0 rfl rfl ?_
                have HO : Hid (World.ownsRow (wa.drew.alloc (.cells #[] 9)) wa.heap.size 9 1 (.slice (some ⟨wa.drew.heap.size, 0, none⟩) 0 0) 0 (([] : List ByteArray).map Value.string)) := own_none wa.drew wa.heap.size 9 1 HC.out.size
                have HC : Hid (Below wa.heap.size wa (wa.drew.alloc (.cells #[] 9))) := HC.out.alloc HC.out.size _
                refine hK.out _ _ ?_ (fun hHeld => ?_)
                · exact HC.out.mono (by omega)
                clear hK K
                try simp only [Act.put, List.setIfInBounds_toArray, List.set_cons_zero, List.set_cons_succ]
                refine wpAnyH_ready (rs := [10, 12]) (by kernel_rfl) (by simp) ?_
                refine AllReadyH.cons (o := { dst := some 81, op := Go.Op.call { callee := Go.Callee.builtin Go.Builtin.append, args := #[Go.Operand.tmp 74, Go.Operand.tmp 80], argTypes := #[32, 32] }, type := 32, pos := "law.go:123", after := #[{ on := 3, ground := Go.Ground.data }, { on := 9, ground := Go.Ground.data }], guard := none }) rfl (fun K hK => ?_) (AllReadyH.cons (o := { dst := some 83, op := Go.Op.buildSlice 32 1 #[(0, Go.Operand.tmp 82)], type := 32, pos := "law.go:123", after := #[{ on := 11, ground := Go.Ground.data }], guard := none }) rfl (fun K hK => ?_) AllReadyH.nil)
                · skip
                  refine step_app_strs rfl (.tmp 74) (.tmp 80) rfl wa.heap.size (.slice (some ⟨wa.drew.heap.size, 0, none⟩) 0 0) 0 [] (by rfl) HO.out x.p.except _ _ (by rfl) (strs_src (HE.out _ HC.out)) (by first | omega | (simp only [List.length_cons, List.length_nil]; omega)) HC.out.size ?_
                  intro v10 w10 hown10 hgrow10 hat10
                  have HC : Hid (Below wa.heap.size wa w10) := HC.out.grown hgrow10 HC.out.size (fun g e => (HO.out.lt g e).1)
                  have HO : Hid (World.ownsRow w10 wa.heap.size 9 1 v10 (0 + x.p.except.length) (([] ++ x.p.except).map Value.string)) := hown10
                  clear hown10 hgrow10 hat10
                  refine hK.out _ _ ?_ (fun hHeld => ?_)
                  · exact HC.out.mono (by omega)
                  clear hK K
                  try simp only [Act.put, List.setIfInBounds_toArray, List.set_cons_zero, List.set_cons_succ]
                  refine wpAnyH_ready (rs := [12]) (by kernel_rfl) (by simp) ?_
                  refine AllReadyH.cons (o := { dst := some 83, op := Go.Op.buildSlice 32 1 #[(0, Go.Operand.tmp 82)], type := 32, pos := "law.go:123", after := #[{ on := 11, ground := Go.Ground.data }], guard := none }) rfl (fun K hK => ?_) AllReadyH.nil
                  refine step_build_str1 rfl (.tmp 82) rfl nm (by rfl) ?_
                  have HX : Hid (Blk (w10.alloc (.cells #[.string nm] 9)) (w10.heap.size) 9 #[.string nm]) := Blk.new w10 9 #[.string nm]
                  have HX0 : Hid ((w10.heap.size) < (w10.alloc (.cells #[.string nm] 9)).heap.size) := HX.out.lt
                  have HN : Hid (∀ g, Value.ownBlock v10 = some g → g ≠ (w10.heap.size)) := fun g e => by have := (HO.out.lt g e).2; omega
                  have HO : Hid (World.ownsRow (w10.alloc (.cells #[.string nm] 9)) wa.heap.size 9 1 v10 (0 + x.p.except.length) ((([] ++ x.p.except) : List ByteArray).map Value.string)) := HO.out.alloc _
                  have HC : Hid (Below wa.heap.size wa (w10.alloc (.cells #[.string nm] 9))) := HC.out.alloc HC.out.size _
                  refine hK.out _ _ ?_ (fun hHeld => ?_)
                  · exact HC.out.mono (by omega)
                  clear hK K
                  try simp only [Act.put, List.setIfInBounds_toArray, List.set_cons_zero, List.set_cons_succ]
                  refine wpAnyH_ready (rs := [13]) (by kernel_rfl) (by simp) ?_
                  refine AllReadyH.cons (o := { dst := some 84, op := Go.Op.call { callee := Go.Callee.builtin Go.Builtin.append, args := #[Go.Operand.tmp 81, Go.Operand.tmp 83], argTypes := #[32, 32] }, type := 32, pos := "law.go:123", after := #[{ on := 10, ground := Go.Ground.data }, { on := 12, ground := Go.Ground.data }, { on := 10, ground := Go.Ground.chain }], guard := none }) rfl (fun K hK => ?_) AllReadyH.nil
                  refine step_app_strs rfl (.tmp 81) (.tmp 83) rfl wa.heap.size v10 (0 + x.p.except.length) ([] ++ x.p.except) (by rfl) HO.out [nm] _ _ (by rfl) (Or.inr ⟨_, rfl, str_src HX.out⟩) (by first | omega | (simp only [List.length_cons, List.length_nil]; omega)) HC.out.size ?_
                  intro v13 w13 hown13 hgrow13 hat13
                  have HC : Hid (Below wa.heap.size wa w13) := HC.out.grown hgrow13 HC.out.size (fun g e => (HO.out.lt g e).1)
                  have HO : Hid (World.ownsRow w13 wa.heap.size 9 1 v13 (x.p.except.length + 1) ((x.p.except ++ [nm]).map Value.string)) := (by have h := hown13; simp only [Nat.zero_add, List.nil_append, List.length_cons, List.length_nil] at h; exact h)
                  obtain ⟨g13, c13, rfl, _, _, _, _⟩ := own_here HO.out (by simp)
                  have k10 := (HC.out.cell (p := ⟨g5, i * 23 + 10, none⟩) hga).trans k10a
                  have z10 := (World.frozen?_of_block (a := ⟨g5, i * 23 + 10, none⟩) (HC.out.block _ hga)).trans z10a
                  clear hown13 hgrow13 hat13
                  refine hK.out _ _ ?_ (fun hHeld => ?_)
                  · exact HC.out.mono (by omega)
                  clear hK K
                  try simp only [Act.put, List.setIfInBounds_toArray, List.set_cons_zero, List.set_cons_succ]
                  refine wpAnyH_take (i := 14) (oi := { dst := some 85, op := Go.Op.indexAddr 25 (Go.Operand.tmp 72) (Go.Operand.tmp 73), type := 0, pos := "law.go:123", after := #[{ on := 1, ground := Go.Ground.data }, { on := 2, ground := Go.Ground.data }, { on := 0, ground := Go.Ground.phase }, { on := 1, ground := Go.Ground.phase }, { on := 2, ground := Go.Ground.phase }, { on := 3, ground := Go.Ground.phase }, { on := 4, ground := Go.Ground.phase }, { on := 5, ground := Go.Ground.phase }, { on := 6, ground := Go.Ground.phase }, { on := 7, ground := Go.Ground.phase }, { on := 8, ground := Go.Ground.phase }, { on := 9, ground := Go.Ground.phase }, { on := 10, ground := Go.Ground.phase }, { on := 11, ground := Go.Ground.phase }, { on := 12, ground := Go.Ground.phase }, { on := 13, ground := Go.Ground.phase }], guard := none }) (v := ?v14) rfl (by kernel_rfl) (by kernel_rfl) (by kernel_rfl) (fun _ _ _ h => h) (Or.inl ⟨by rfl, ?y14⟩) (by assumption) ?_
                  case y14 => (intro w9 hSw; have e1 := (hSw.cell (p := ⟨w.heap.size, 1, none⟩) (by show w.heap.size < _; omega)).trans y1; have e2 := (hSw.cell (p := ⟨w2.heap.size, 1, none⟩) (Nat.lt_succ_self _)).trans m1; have e3 := (hSw.cell (p := ⟨b, off + i * 23 + 10, none⟩) (by show b < _; omega)).trans c10; go_simp; try with_reducible rfl)
                  try simp only [Act.put, List.setIfInBounds_toArray, List.set_cons_zero, List.set_cons_succ]
                  refine wpAnyH_take (i := 15) (oi := { dst := some 86, op := Go.Op.fieldAddr 49 (Go.Operand.tmp 85) 6, type := 0, pos := "law.go:123", after := #[{ on := 14, ground := Go.Ground.data }, { on := 0, ground := Go.Ground.phase }, { on := 1, ground := Go.Ground.phase }, { on := 2, ground := Go.Ground.phase }, { on := 3, ground := Go.Ground.phase }, { on := 4, ground := Go.Ground.phase }, { on := 5, ground := Go.Ground.phase }, { on := 6, ground := Go.Ground.phase }, { on := 7, ground := Go.Ground.phase }, { on := 8, ground := Go.Ground.phase }, { on := 9, ground := Go.Ground.phase }, { on := 10, ground := Go.Ground.phase }, { on := 11, ground := Go.Ground.phase }, { on := 12, ground := Go.Ground.phase }, { on := 13, ground := Go.Ground.phase }], guard := none }) (v := ?v15) rfl (by kernel_rfl) (by kernel_rfl) (by kernel_rfl) (fun _ _ _ h => h) (Or.inl ⟨by rfl, ?y15⟩) (by assumption) ?_
                  case y15 => (intro w9 hSw; have e1 := (hSw.cell (p := ⟨w.heap.size, 1, none⟩) (by show w.heap.size < _; omega)).trans y1; have e2 := (hSw.cell (p := ⟨w2.heap.size, 1, none⟩) (Nat.lt_succ_self _)).trans m1; have e3 := (hSw.cell (p := ⟨b, off + i * 23 + 10, none⟩) (by show b < _; omega)).trans c10; go_simp; try with_reducible rfl)
                  try simp only [Act.put, List.setIfInBounds_toArray, List.set_cons_zero, List.set_cons_succ]
                  refine wpAnyH_ready (rs := [16]) (by kernel_rfl) (by simp) ?_
                  refine AllReadyH.cons (o := { dst := none, op := Go.Op.store 32 (Go.Operand.tmp 86) (Go.Operand.tmp 84), type := 0, pos := "law.go:123", after := #[{ on := 15, ground := Go.Ground.data }, { on := 13, ground := Go.Ground.data }, { on := 13, ground := Go.Ground.chain }, { on := 0, ground := Go.Ground.phase }, { on := 1, ground := Go.Ground.phase }, { on := 2, ground := Go.Ground.phase }, { on := 3, ground := Go.Ground.phase }, { on := 4, ground := Go.Ground.phase }, { on := 5, ground := Go.Ground.phase }, { on := 6, ground := Go.Ground.phase }, { on := 7, ground := Go.Ground.phase }, { on := 8, ground := Go.Ground.phase }, { on := 9, ground := Go.Ground.phase }, { on := 10, ground := Go.Ground.phase }, { on := 11, ground := Go.Ground.phase }, { on := 12, ground := Go.Ground.phase }, { on := 13, ground := Go.Ground.phase }], guard := none }) rfl (fun K hK => ?_) AllReadyH.nil
                  go_simp
                  refine hK.out _ _ ?_ (fun hHeld => ?_)
                  · exact (HC.out.mono (by omega)).setCell (p := ⟨g5, _, none⟩) hg1 _
                  clear hK K
                  try simp only [Act.put, List.setIfInBounds_toArray, List.set_cons_zero, List.set_cons_succ]
                  refine wpAnyH_done (by kernel_rfl) ?_ _
                  (go_wp2; go_meet; exact oth_post hxi hxx HROW.out HC.out HO.out (by omega) (by omega))
                · skip
                  refine step_build_str1 rfl (.tmp 82) rfl nm (by rfl) ?_
                  have HX : Hid (Blk ((wa.drew.alloc (.cells #[] 9)).alloc (.cells #[.string nm] 9)) ((wa.drew.alloc (.cells #[] 9)).heap.size) 9 #[.string nm]) := Blk.new (wa.drew.alloc (.cells #[] 9)) 9 #[.string nm]
                  have HX0 : Hid (((wa.drew.alloc (.cells #[] 9)).heap.size) < ((wa.drew.alloc (.cells #[] 9)).alloc (.cells #[.string nm] 9)).heap.size) := HX.out.lt
                  have HN : Hid (∀ g, Value.ownBlock (.slice (some ⟨wa.drew.heap.size, 0, none⟩) 0 0) = some g → g ≠ ((wa.drew.alloc (.cells #[] 9)).heap.size)) := fun g e => by have := (HO.out.lt g e).2; omega
                  have HO : Hid (World.ownsRow ((wa.drew.alloc (.cells #[] 9)).alloc (.cells #[.string nm] 9)) wa.heap.size 9 1 (.slice (some ⟨wa.drew.heap.size, 0, none⟩) 0 0) 0 (([] : List ByteArray).map Value.string)) := HO.out.alloc _
                  have HC : Hid (Below wa.heap.size wa ((wa.drew.alloc (.cells #[] 9)).alloc (.cells #[.string nm] 9))) := HC.out.alloc HC.out.size _
                  refine hK.out _ _ ?_ (fun hHeld => ?_)
                  · exact HC.out.mono (by omega)
                  clear hK K
                  try simp only [Act.put, List.setIfInBounds_toArray, List.set_cons_zero, List.set_cons_succ]
                  refine wpAnyH_ready (rs := [10]) (by kernel_rfl) (by simp) ?_
                  refine AllReadyH.cons (o := { dst := some 81, op := Go.Op.call { callee := Go.Callee.builtin Go.Builtin.append, args := #[Go.Operand.tmp 74, Go.Operand.tmp 80], argTypes := #[32, 32] }, type := 32, pos := "law.go:123", after := #[{ on := 3, ground := Go.Ground.data }, { on := 9, ground := Go.Ground.data }], guard := none }) rfl (fun K hK => ?_) AllReadyH.nil
                  refine step_app_strs rfl (.tmp 74) (.tmp 80) rfl wa.heap.size (.slice (some ⟨wa.drew.heap.size, 0, none⟩) 0 0) 0 [] (by rfl) HO.out x.p.except _ _ (by rfl) (strs_src (HE.out _ HC.out)) (by first | omega | (simp only [List.length_cons, List.length_nil]; omega)) HC.out.size ?_
                  intro v10 w10 hown10 hgrow10 hat10
                  have HX : Hid (Blk w10 ((wa.drew.alloc (.cells #[] 9)).heap.size) 9 #[.string nm]) := HX.out.grown hgrow10 (fun e => HN.out _ e.symm rfl)
                  have HX0 : Hid (((wa.drew.alloc (.cells #[] 9)).heap.size) < w10.heap.size) := HX.out.lt
                  have HC : Hid (Below wa.heap.size wa w10) := HC.out.grown hgrow10 HC.out.size (fun g e => (HO.out.lt g e).1)
                  have HO : Hid (World.ownsRow w10 wa.heap.size 9 1 v10 (0 + x.p.except.length) (([] ++ x.p.except).map Value.string)) := hown10
                  clear hown10 hgrow10 hat10
                  refine hK.out _ _ ?_ (fun hHeld => ?_)
                  · exact HC.out.mono (by omega)
                  clear hK K
                  try simp only [Act.put, List.setIfInBounds_toArray, List.set_cons_zero, List.set_cons_succ]
                  refine wpAnyH_ready (rs := [13]) (by kernel_rfl) (by simp) ?_
                  refine AllReadyH.cons (o := { dst := some 84, op := Go.Op.call { callee := Go.Callee.builtin Go.Builtin.append, args := #[Go.Operand.tmp 81, Go.Operand.tmp 83], argTypes := #[32, 32] }, type := 32, pos := "law.go:123", after := #[{ on := 10, ground := Go.Ground.data }, { on := 12, ground := Go.Ground.data }, { on := 10, ground := Go.Ground.chain }], guard := none }) rfl (fun K hK => ?_) AllReadyH.nil
                  refine step_app_strs rfl (.tmp 81) (.tmp 83) rfl wa.heap.size v10 (0 + x.p.except.length) ([] ++ x.p.except) (by rfl) HO.out [nm] _ _ (by rfl) (Or.inr ⟨_, rfl, str_src HX.out⟩) (by first | omega | (simp only [List.length_cons, List.length_nil]; omega)) HC.out.size ?_
                  intro v13 w13 hown13 hgrow13 hat13
                  have HC : Hid (Below wa.heap.size wa w13) := HC.out.grown hgrow13 HC.out.size (fun g e => (HO.out.lt g e).1)
                  have HO : Hid (World.ownsRow w13 wa.heap.size 9 1 v13 (x.p.except.length + 1) ((x.p.except ++ [nm]).map Value.string)) := (by have h := hown13; simp only [Nat.zero_add, List.nil_append, List.length_cons, List.length_nil] at h; exact h)
                  obtain ⟨g13, c13, rfl, _, _, _, _⟩ := own_here HO.out (by simp)
                  have k10 := (HC.out.cell (p := ⟨g5, i * 23 + 10, none⟩) hga).trans k10a
                  have z10 := (World.frozen?_of_block (a := ⟨g5, i * 23 + 10, none⟩) (HC.out.block _ hga)).trans z10a
                  clear hown13 hgrow13 hat13
                  refine hK.out _ _ ?_ (fun hHeld => ?_)
                  · exact HC.out.mono (by omega)
                  clear hK K
                  try simp only [Act.put, List.setIfInBounds_toArray, List.set_cons_zero, List.set_cons_succ]
                  refine wpAnyH_take (i := 14) (oi := { dst := some 85, op := Go.Op.indexAddr 25 (Go.Operand.tmp 72) (Go.Operand.tmp 73), type := 0, pos := "law.go:123", after := #[{ on := 1, ground := Go.Ground.data }, { on := 2, ground := Go.Ground.data }, { on := 0, ground := Go.Ground.phase }, { on := 1, ground := Go.Ground.phase }, { on := 2, ground := Go.Ground.phase }, { on := 3, ground := Go.Ground.phase }, { on := 4, ground := Go.Ground.phase }, { on := 5, ground := Go.Ground.phase }, { on := 6, ground := Go.Ground.phase }, { on := 7, ground := Go.Ground.phase }, { on := 8, ground := Go.Ground.phase }, { on := 9, ground := Go.Ground.phase }, { on := 10, ground := Go.Ground.phase }, { on := 11, ground := Go.Ground.phase }, { on := 12, ground := Go.Ground.phase }, { on := 13, ground := Go.Ground.phase }], guard := none }) (v := ?v14) rfl (by kernel_rfl) (by kernel_rfl) (by kernel_rfl) (fun _ _ _ h => h) (Or.inl ⟨by rfl, ?y14⟩) (by assumption) ?_
                  case y14 => (intro w9 hSw; have e1 := (hSw.cell (p := ⟨w.heap.size, 1, none⟩) (by show w.heap.size < _; omega)).trans y1; have e2 := (hSw.cell (p := ⟨w2.heap.size, 1, none⟩) (Nat.lt_succ_self _)).trans m1; have e3 := (hSw.cell (p := ⟨b, off + i * 23 + 10, none⟩) (by show b < _; omega)).trans c10; go_simp; try with_reducible rfl)
                  try simp only [Act.put, List.setIfInBounds_toArray, List.set_cons_zero, List.set_cons_succ]
                  refine wpAnyH_take (i := 15) (oi := { dst := some 86, op := Go.Op.fieldAddr 49 (Go.Operand.tmp 85) 6, type := 0, pos := "law.go:123", after := #[{ on := 14, ground := Go.Ground.data }, { on := 0, ground := Go.Ground.phase }, { on := 1, ground := Go.Ground.phase }, { on := 2, ground := Go.Ground.phase }, { on := 3, ground := Go.Ground.phase }, { on := 4, ground := Go.Ground.phase }, { on := 5, ground := Go.Ground.phase }, { on := 6, ground := Go.Ground.phase }, { on := 7, ground := Go.Ground.phase }, { on := 8, ground := Go.Ground.phase }, { on := 9, ground := Go.Ground.phase }, { on := 10, ground := Go.Ground.phase }, { on := 11, ground := Go.Ground.phase }, { on := 12, ground := Go.Ground.phase }, { on := 13, ground := Go.Ground.phase }], guard := none }) (v := ?v15) rfl (by kernel_rfl) (by kernel_rfl) (by kernel_rfl) (fun _ _ _ h => h) (Or.inl ⟨by rfl, ?y15⟩) (by assumption) ?_
                  case y15 => (intro w9 hSw; have e1 := (hSw.cell (p := ⟨w.heap.size, 1, none⟩) (by show w.heap.size < _; omega)).trans y1; have e2 := (hSw.cell (p := ⟨w2.heap.size, 1, none⟩) (Nat.lt_succ_self _)).trans m1; have e3 := (hSw.cell (p := ⟨b, off + i * 23 + 10, none⟩) (by show b < _; omega)).trans c10; go_simp; try with_reducible rfl)
                  try simp only [Act.put, List.setIfInBounds_toArray, List.set_cons_zero, List.set_cons_succ]
                  refine wpAnyH_ready (rs := [16]) (by kernel_rfl) (by simp) ?_
                  refine AllReadyH.cons (o := { dst := none, op := Go.Op.store 32 (Go.Operand.tmp 86) (Go.Operand.tmp 84), type := 0, pos := "law.go:123", after := #[{ on := 15, ground := Go.Ground.data }, { on := 13, ground := Go.Ground.data }, { on := 13, ground := Go.Ground.chain }, { on := 0, ground := Go.Ground.phase }, { on := 1, ground := Go.Ground.phase }, { on := 2, ground := Go.Ground.phase }, { on := 3, ground := Go.Ground.phase }, { on := 4, ground := Go.Ground.phase }, { on := 5, ground := Go.Ground.phase }, { on := 6, ground := Go.Ground.phase }, { on := 7, ground := Go.Ground.phase }, { on := 8, ground := Go.Ground.phase }, { on := 9, ground := Go.Ground.phase }, { on := 10, ground := Go.Ground.phase }, { on := 11, ground := Go.Ground.phase }, { on := 12, ground := Go.Ground.phase }, { on := 13, ground := Go.Ground.phase }], guard := none }) rfl (fun K hK => ?_) AllReadyH.nil
                  go_simp
                  refine hK.out _ _ ?_ (fun hHeld => ?_)
                  · exact (HC.out.mono (by omega)).setCell (p := ⟨g5, _, none⟩) hg1 _
                  clear hK K
                  try simp only [Act.put, List.setIfInBounds_toArray, List.set_cons_zero, List.set_cons_succ]
                  refine wpAnyH_done (by kernel_rfl) ?_ _
                  (go_wp2; go_meet; exact oth_post hxi hxx HROW.out HC.out HO.out (by omega) (by omega))
              · skip
                refine step_build_str1 rfl (.tmp 82) rfl nm (by rfl) ?_
                have HX : Hid (Blk (wa.drew.alloc (.cells #[.string nm] 9)) (wa.drew.heap.size) 9 #[.string nm]) := Blk.new wa.drew 9 #[.string nm]
                have HX0 : Hid ((wa.drew.heap.size) < (wa.drew.alloc (.cells #[.string nm] 9)).heap.size) := HX.out.lt
                have HC : Hid (Below wa.heap.size wa (wa.drew.alloc (.cells #[.string nm] 9))) := HC.out.alloc HC.out.size _
                refine hK.out _ _ ?_ (fun hHeld => ?_)
                · exact HC.out.mono (by omega)
                clear hK K
                try simp only [Act.put, List.setIfInBounds_toArray, List.set_cons_zero, List.set_cons_succ]
                refine wpAnyH_ready (rs := [3]) (by kernel_rfl) (by simp) ?_
                refine AllReadyH.cons (o := { dst := some 74, op := Go.Op.buildSlice 32 0 #[], type := 32, pos := "law.go:123", after := #[], guard := none }) rfl (fun K hK => ?_) AllReadyH.nil
                refine step_build_strs0 rfl rfl ?_
                have HO : Hid (World.ownsRow ((wa.drew.alloc (.cells #[.string nm] 9)).alloc (.cells #[] 9)) wa.heap.size 9 1 (.slice (some ⟨(wa.drew.alloc (.cells #[.string nm] 9)).heap.size, 0, none⟩) 0 0) 0 (([] : List ByteArray).map Value.string)) := own_none (wa.drew.alloc (.cells #[.string nm] 9)) wa.heap.size 9 1 HC.out.size
                have HX : Hid (Blk ((wa.drew.alloc (.cells #[.string nm] 9)).alloc (.cells #[] 9)) (wa.drew.heap.size) 9 #[.string nm]) := HX.out.alloc _
                have HN : Hid (∀ g, Value.ownBlock (.slice (some ⟨(wa.drew.alloc (.cells #[.string nm] 9)).heap.size, 0, none⟩) 0 0) = some g → g ≠ (wa.drew.heap.size)) := fun g e => by have := HX0.out; simp only [Value.ownBlock, Option.some.injEq] at e; omega
                have HC : Hid (Below wa.heap.size wa ((wa.drew.alloc (.cells #[.string nm] 9)).alloc (.cells #[] 9))) := HC.out.alloc HC.out.size _
                refine hK.out _ _ ?_ (fun hHeld => ?_)
                · exact HC.out.mono (by omega)
                clear hK K
                try simp only [Act.put, List.setIfInBounds_toArray, List.set_cons_zero, List.set_cons_succ]
                refine wpAnyH_ready (rs := [10]) (by kernel_rfl) (by simp) ?_
                refine AllReadyH.cons (o := { dst := some 81, op := Go.Op.call { callee := Go.Callee.builtin Go.Builtin.append, args := #[Go.Operand.tmp 74, Go.Operand.tmp 80], argTypes := #[32, 32] }, type := 32, pos := "law.go:123", after := #[{ on := 3, ground := Go.Ground.data }, { on := 9, ground := Go.Ground.data }], guard := none }) rfl (fun K hK => ?_) AllReadyH.nil
                refine step_app_strs rfl (.tmp 74) (.tmp 80) rfl wa.heap.size (.slice (some ⟨(wa.drew.alloc (.cells #[.string nm] 9)).heap.size, 0, none⟩) 0 0) 0 [] (by rfl) HO.out x.p.except _ _ (by rfl) (strs_src (HE.out _ HC.out)) (by first | omega | (simp only [List.length_cons, List.length_nil]; omega)) HC.out.size ?_
                intro v10 w10 hown10 hgrow10 hat10
                have HX : Hid (Blk w10 (wa.drew.heap.size) 9 #[.string nm]) := HX.out.grown hgrow10 (fun e => HN.out _ e.symm rfl)
                have HX0 : Hid ((wa.drew.heap.size) < w10.heap.size) := HX.out.lt
                have HC : Hid (Below wa.heap.size wa w10) := HC.out.grown hgrow10 HC.out.size (fun g e => (HO.out.lt g e).1)
                have HO : Hid (World.ownsRow w10 wa.heap.size 9 1 v10 (0 + x.p.except.length) (([] ++ x.p.except).map Value.string)) := hown10
                clear hown10 hgrow10 hat10
                refine hK.out _ _ ?_ (fun hHeld => ?_)
                · exact HC.out.mono (by omega)
                clear hK K
                try simp only [Act.put, List.setIfInBounds_toArray, List.set_cons_zero, List.set_cons_succ]
                refine wpAnyH_ready (rs := [13]) (by kernel_rfl) (by simp) ?_
                refine AllReadyH.cons (o := { dst := some 84, op := Go.Op.call { callee := Go.Callee.builtin Go.Builtin.append, args := #[Go.Operand.tmp 81, Go.Operand.tmp 83], argTypes := #[32, 32] }, type := 32, pos := "law.go:123", after := #[{ on := 10, ground := Go.Ground.data }, { on := 12, ground := Go.Ground.data }, { on := 10, ground := Go.Ground.chain }], guard := none }) rfl (fun K hK => ?_) AllReadyH.nil
                refine step_app_strs rfl (.tmp 81) (.tmp 83) rfl wa.heap.size v10 (0 + x.p.except.length) ([] ++ x.p.except) (by rfl) HO.out [nm] _ _ (by rfl) (Or.inr ⟨_, rfl, str_src HX.out⟩) (by first | omega | (simp only [List.length_cons, List.length_nil]; omega)) HC.out.size ?_
                intro v13 w13 hown13 hgrow13 hat13
                have HC : Hid (Below wa.heap.size wa w13) := HC.out.grown hgrow13 HC.out.size (fun g e => (HO.out.lt g e).1)
                have HO : Hid (World.ownsRow w13 wa.heap.size 9 1 v13 (x.p.except.length + 1) ((x.p.except ++ [nm]).map Value.string)) := (by have h := hown13; simp only [Nat.zero_add, List.nil_append, List.length_cons, List.length_nil] at h; exact h)
                obtain ⟨g13, c13, rfl, _, _, _, _⟩ := own_here HO.out (by simp)
                have k10 := (HC.out.cell (p := ⟨g5, i * 23 + 10, none⟩) hga).trans k10a
                have z10 := (World.frozen?_of_block (a := ⟨g5, i * 23 + 10, none⟩) (HC.out.block _ hga)).trans z10a
                clear hown13 hgrow13 hat13
                refine hK.out _ _ ?_ (fun hHeld => ?_)
                · exact HC.out.mono (by omega)
                clear hK K
                try simp only [Act.put, List.setIfInBounds_toArray, List.set_cons_zero, List.set_cons_succ]
                refine wpAnyH_take (i := 14) (oi := { dst := some 85, op := Go.Op.indexAddr 25 (Go.Operand.tmp 72) (Go.Operand.tmp 73), type := 0, pos := "law.go:123", after := #[{ on := 1, ground := Go.Ground.data }, { on := 2, ground := Go.Ground.data }, { on := 0, ground := Go.Ground.phase }, { on := 1, ground := Go.Ground.phase }, { on := 2, ground := Go.Ground.phase }, { on := 3, ground := Go.Ground.phase }, { on := 4, ground := Go.Ground.phase }, { on := 5, ground := Go.Ground.phase }, { on := 6, ground := Go.Ground.phase }, { on := 7, ground := Go.Ground.phase }, { on := 8, ground := Go.Ground.phase }, { on := 9, ground := Go.Ground.phase }, { on := 10, ground := Go.Ground.phase }, { on := 11, ground := Go.Ground.phase }, { on := 12, ground := Go.Ground.phase }, { on := 13, ground := Go.Ground.phase }], guard := none }) (v := ?v14) rfl (by kernel_rfl) (by kernel_rfl) (by kernel_rfl) (fun _ _ _ h => h) (Or.inl ⟨by rfl, ?y14⟩) (by assumption) ?_
                case y14 => (intro w9 hSw; have e1 := (hSw.cell (p := ⟨w.heap.size, 1, none⟩) (by show w.heap.size < _; omega)).trans y1; have e2 := (hSw.cell (p := ⟨w2.heap.size, 1, none⟩) (Nat.lt_succ_self _)).trans m1; have e3 := (hSw.cell (p := ⟨b, off + i * 23 + 10, none⟩) (by show b < _; omega)).trans c10; go_simp; try with_reducible rfl)
                try simp only [Act.put, List.setIfInBounds_toArray, List.set_cons_zero, List.set_cons_succ]
                refine wpAnyH_take (i := 15) (oi := { dst := some 86, op := Go.Op.fieldAddr 49 (Go.Operand.tmp 85) 6, type := 0, pos := "law.go:123", after := #[{ on := 14, ground := Go.Ground.data }, { on := 0, ground := Go.Ground.phase }, { on := 1, ground := Go.Ground.phase }, { on := 2, ground := Go.Ground.phase }, { on := 3, ground := Go.Ground.phase }, { on := 4, ground := Go.Ground.phase }, { on := 5, ground := Go.Ground.phase }, { on := 6, ground := Go.Ground.phase }, { on := 7, ground := Go.Ground.phase }, { on := 8, ground := Go.Ground.phase }, { on := 9, ground := Go.Ground.phase }, { on := 10, ground := Go.Ground.phase }, { on := 11, ground := Go.Ground.phase }, { on := 12, ground := Go.Ground.phase }, { on := 13, ground := Go.Ground.phase }], guard := none }) (v := ?v15) rfl (by kernel_rfl) (by kernel_rfl) (by kernel_rfl) (fun _ _ _ h => h) (Or.inl ⟨by rfl, ?y15⟩) (by assumption) ?_
                case y15 => (intro w9 hSw; have e1 := (hSw.cell (p := ⟨w.heap.size, 1, none⟩) (by show w.heap.size < _; omega)).trans y1; have e2 := (hSw.cell (p := ⟨w2.heap.size, 1, none⟩) (Nat.lt_succ_self _)).trans m1; have e3 := (hSw.cell (p := ⟨b, off + i * 23 + 10, none⟩) (by show b < _; omega)).trans c10; go_simp; try with_reducible rfl)
                try simp only [Act.put, List.setIfInBounds_toArray, List.set_cons_zero, List.set_cons_succ]
                refine wpAnyH_ready (rs := [16]) (by kernel_rfl) (by simp) ?_
                refine AllReadyH.cons (o := { dst := none, op := Go.Op.store 32 (Go.Operand.tmp 86) (Go.Operand.tmp 84), type := 0, pos := "law.go:123", after := #[{ on := 15, ground := Go.Ground.data }, { on := 13, ground := Go.Ground.data }, { on := 13, ground := Go.Ground.chain }, { on := 0, ground := Go.Ground.phase }, { on := 1, ground := Go.Ground.phase }, { on := 2, ground := Go.Ground.phase }, { on := 3, ground := Go.Ground.phase }, { on := 4, ground := Go.Ground.phase }, { on := 5, ground := Go.Ground.phase }, { on := 6, ground := Go.Ground.phase }, { on := 7, ground := Go.Ground.phase }, { on := 8, ground := Go.Ground.phase }, { on := 9, ground := Go.Ground.phase }, { on := 10, ground := Go.Ground.phase }, { on := 11, ground := Go.Ground.phase }, { on := 12, ground := Go.Ground.phase }, { on := 13, ground := Go.Ground.phase }], guard := none }) rfl (fun K hK => ?_) AllReadyH.nil
                go_simp
                refine hK.out _ _ ?_ (fun hHeld => ?_)
                · exact (HC.out.mono (by omega)).setCell (p := ⟨g5, _, none⟩) hg1 _
                clear hK K
                try simp only [Act.put, List.setIfInBounds_toArray, List.set_cons_zero, List.set_cons_succ]
                refine wpAnyH_done (by kernel_rfl) ?_ _
                (go_wp2; go_meet; exact oth_post hxi hxx HROW.out HC.out HO.out (by omega) (by omega))
        case rest =>
          subst hxx
          obtain ⟨ao, cap, hrowc, hbelc, hstrc⟩ := hcut.out
          have HBC := Lib.hid (HBA.out.trans (hbelc.mono (by omega)))
          have hwc : w2.heap.size < wc.heap.size := by have := hbelc.size; omega
          have hlo := more_exc (asn := asn) (ns := ns) (cs := cs) hxi HXP.out hi hrowc HXO.out HBC.out (by omega) hstrc HDF.out
          have hmb : wc.heap[w2.heap.size]? = wa.heap[w2.heap.size]? := hbelc.block _ (Nat.lt_succ_self _)
          have hMB : Blk wc w2.heap.size 28 (#[.slice ad d.length cd, .slice (some ⟨b, off, none⟩) ps.length cp, .slice asn ns cs].setIfInBounds 1 (.slice (some ⟨g5, 0, none⟩) ps.length cap5)) := hmb.trans HKM.out
          have n0 : wc.cell? ⟨w2.heap.size, 0, none⟩ = some (.slice ad d.length cd) := hMB.cell 0
          have n1 : wc.cell? ⟨w2.heap.size, 1, none⟩ = some (.slice (some ⟨g5, 0, none⟩) ps.length cap5) := hMB.cell 1
          have n2 : wc.cell? ⟨w2.heap.size, 2, none⟩ = some (.slice asn ns cs) := hMB.cell 2
          have HOM : Hid (K3 wc w2.heap.size _ _ _) := ⟨n0, n1, n2⟩
          have HLB : Hid (K3 wc w.heap.size _ _ _) := k3_up HA.out hbelc (by omega)
          have HLO := Lib.hid hlo
          obtain ⟨y0, y2', y3⟩ := HLB.out
          clear y1 m1 c10 k10a z10a hrowc hbelc hstrc hlo hmb hMB hcut HA HKM HROW HE HY2 HY1 HX n0 n1 n2 HBW
          go_upto_region 14 with (fail)
          have hb6 : Below wc.heap.size wc ((wc.alloc (.cells #[.slice ad d.length cd, .slice (some ⟨b, off, none⟩) ps.length cp, .slice asn ns cs] 28)).alloc (.cells #[] 49)) := ((Below.refl _ _).alloc (Nat.le_refl _) _).alloc (by simp) _
          have hbw6 : Below w.heap.size w ((wc.alloc (.cells #[.slice ad d.length cd, .slice (some ⟨b, off, none⟩) ps.length cp, .slice asn ns cs] 28)).alloc (.cells #[] 49)) := HBC.out.trans (hb6.mono (by omega))
          have HE6 : Hid (((wc.alloc (.cells #[.slice ad d.length cd, .slice (some ⟨b, off, none⟩) ps.length cp, .slice asn ns cs] 28)).alloc (.cells #[] 49)).ownsRow (wc.heap.size + 1) 49 23 (.slice (some ⟨wc.heap.size + 1, 0, none⟩) 0 0) 0 []) := by
            have h := own_none (wc.alloc (.cells #[.slice ad d.length cd, .slice (some ⟨b, off, none⟩) ps.length cp, .slice asn ns cs] 28)) (wc.heap.size + 1) 49 23 (by simp)
            simp only [World.size_alloc] at h
            exact h
          have hrg : ∀ W, Below w.heap.size w W → W.rangeAt b off (xs.flatMap PvA.cells) := fun W hb j v hv => (hb.cell (p := ⟨b, off + j, none⟩) hbB).trans (HRG.out j v hv)
          have HR6 := Lib.hid (hrg _ hbw6)
          have q1 := (hb6.cell (p := ⟨w.heap.size, 1, none⟩) (by show w.heap.size < _; omega)).trans y2'
          clear hrg
          go_upto_region 15 with (first
            | (at_builtin; refine wpList_append_own_at _ (by rfl) (.tmp 88) (.tmp 90) 25 (by rfl) (wc.heap.size + 1) 49 ip zp 23 312 Tryz.underlying25 hip hzp hsp_ hbp hzc (by omega) (.slice (some ⟨wc.heap.size + 1, 0, none⟩) 0 0) 0 [] (by rfl) HE6.out ⟨b, off, none⟩ ps.length cp (xs.flatMap PvA.cells) (by rfl) hfl (news_range HR6.out) (flat_one xs) (by unfold maxLen; omega) (by omega) (by simp) ?_; intro v6 w6 hown6 hgrow6 hnil6 hat6; rw [Nat.zero_add, List.nil_append] at hown6; obtain ⟨g6, cap6, rfl, hg61, hg62, hg63, hg64⟩ := own_here hown6 (by omega); have HKM6 := Lib.hid (((Blk.new wc 28 #[.slice ad d.length cd, .slice (some ⟨b, off, none⟩) ps.length cp, .slice asn ns cs]).below ((Below.refl _ _).alloc (Nat.le_refl _) (.cells #[] 49))).grown hgrow6 (by simp [Value.ownBlock])); have HG6 : Hid (Below wc.heap.size wc w6) := hb6.grown hgrow6 (by simp; omega) (fun g e => by simp only [Value.ownBlock, Option.some.injEq] at e; omega); have HO6 := Lib.hid hown6; have hz6 := HG6.out.size; clear hnil6 hat6 hgrow6 hown6 q1)
            | ((with_reducible show wpList _ _ _ (⟨Op.build 49 _, _, _, _, _, _⟩ :: _) _ _); refine wpList_build_never rfl (.tmp 92) (.tmp 93) (.tmp 94) rfl nm es ae ce rfl rfl rfl ?_)
            | ((with_reducible show wpList _ _ _ (⟨_, Op.buildSlice 25 1 #[(0, .tmp 95)], _, _, _, _⟩ :: _) _ _); refine wpList_build_pv rfl (.tmp 95) rfl (neverP nm es) none 0 ae ce rfl ?_)
            | (at_builtin; refine wpList_append_own_at _ (by rfl) (.tmp 91) (.tmp 96) 25 (by rfl) (wc.heap.size + 1) 49 ip zp 23 312 Tryz.underlying25 hip hzp hsp_ hbp hzc (by omega) (.slice (some ⟨g6, 0, none⟩) ps.length cap6) ps.length (xs.flatMap PvA.cells) (by rfl) (HO6.out.alloc _) ⟨w6.heap.size, 0, none⟩ 1 1 (pvC (neverP nm es) none 0 ae ce) (by rfl) (by rfl) (news_blk w6 _ _) (pvC_ones _ _ _ _ _) (by unfold maxLen; omega) (by omega) (by simp; omega) ?_; intro v7 w7 hown7 hgrow7 hnil7 hat7; obtain ⟨g7, cap7, rfl⟩ := ownsRow_succ hown7; have HKM7 := Lib.hid ((HKM6.out.below ((Below.refl _ _).alloc (Nat.le_refl _) (.cells (pvC (neverP nm es) none 0 ae ce).toArray 49))).grown hgrow7 (by simp only [Value.ownBlock]; intro e; simp at e; omega)); have s1 := HKM7.out.cell 1; have s2 := HKM7.out.frozen 1; have HG7 : Hid (Below wc.heap.size wc w7) := (HG6.out.alloc hz6 _).grown hgrow7 (by simp; omega) (fun g e => by simp only [Value.ownBlock, Option.some.injEq] at e; omega); have HO7 := Lib.hid hown7; clear hnil7 hat7 hgrow7 hown7))
          have hrow7 := own_struck HO7.out ⟨wc.heap.size, 1, none⟩ (.slice (some ⟨g7, 0, none⟩) (ps.length + 1) cap7) (fun g e => by have := (HO7.out.lt g e).1; show g ≠ wc.heap.size; omega)
          have hbd : Below wc.heap.size wc (w7.setCell ⟨wc.heap.size, 1, none⟩ (.slice (some ⟨g7, 0, none⟩) (ps.length + 1) cap7)) := HG7.out.setCell (p := ⟨wc.heap.size, 1, none⟩) (Nat.le_refl _) _
          have hMD := HKM7.out.set 1 (.slice (some ⟨g7, 0, none⟩) (ps.length + 1) cap7)
          clear s1 s2 HO6 HO7 HKM6 HKM7 HG6 HG7 HE6 HR6 y0 y2' y3
          generalize (w7.setCell ⟨wc.heap.size, 1, none⟩ (.slice (some ⟨g7, 0, none⟩) (ps.length + 1) cap7)) = wd at *
          have HM3 : Hid (K3 wd wc.heap.size (.slice ad d.length cd) (.slice (some ⟨g7, 0, none⟩) (ps.length + 1) cap7) (.slice asn ns cs)) := ⟨hMD.cell 0, hMD.cell 1, hMD.cell 2⟩
          have HL3 := Lib.hid (k3_up HLB.out hbd (by omega))
          have HO3 := Lib.hid (k3_up HOM.out hbd hwc)
          have hwd := hMD.lt
          have hbwd : Below w.heap.size w wd := HBC.out.trans (hbd.mono (by omega))
          have hlm := more_never (asn := asn) (ns := ns) (cs := cs) (xs := xs) HXP.out (by rw [hxl]; exact hrow7) HXO.out hbwd (by omega) (by unfold maxLen; exact hnm) HE0.out HDF.out
          have hsz2 : ∀ p ∈ ps, p.cond.size ≤ 1000000 := fun p hp => Nat.le_trans (hsz p hp) (by decide)
          have hot := others_law (d := d) (c := c) hi nm HNO.out
          have hmr := more_res (d := d) (c := c) nm es HNO.out
          have HAPP := Lib.hid (fun W (hb : Below wd.heap.size wd W) => appl_any d ps c _ _ W w.heap.size (by omega) (Nat.le_trans (by omega) hb.size) (hl0.below (hbwd.trans (hb.mono (by omega)))) hex hsz2 (hc0.below (hbwd.trans (hb.mono (by omega)))))
          have HAPO := Lib.hid (fun W (hb : Below wd.heap.size wd W) => by
            have h := appl_any d (ps.set i (exP nm ps[i])) c _ _ W wc.heap.size (by rw [List.length_set]; omega) (Nat.le_trans (by omega) hb.size) (HLO.out.below (hbd.trans (hb.mono (by omega)))) (fun p hp => by
              rcases List.mem_or_eq_of_mem_set hp with hm | rfl
              · exact hex p hm
              · show (ps[i].except ++ [nm]).length ≤ 40
                have := hex30 _ (List.getElem_mem hi)
                rw [List.length_append, List.length_singleton]; omega) (fun p hp => by
              rcases List.mem_or_eq_of_mem_set hp with hm | rfl
              · exact hsz2 p hm
              · exact hsz2 ps[i] (List.getElem_mem hi)) ((hc0.below (hbwd.trans (hb.mono (by omega)))).mono (OneR.mono _) (by omega))
            rw [hot.2, hot.1] at h
            exact h)
          have HAPM := Lib.hid (fun W (hb : Below wd.heap.size wd W) => appl_any d (ps ++ [neverP nm es]) c _ _ W wd.heap.size (by rw [List.length_append, List.length_singleton]; omega) hb.size (hlm.below hb) (fun p hp => by
            rcases List.mem_append.1 hp with hm | hm
            · exact hex p hm
            · rw [List.mem_singleton] at hm; subst hm; show es.length ≤ 40; have := of_decide_eq_false g2; omega) (fun p hp => by
            rcases List.mem_append.1 hp with hm | hm
            · exact hsz2 p hm
            · rw [List.mem_singleton] at hm; subst hm; show Fo.size (.mk 2 _ 0 0 []) ≤ _; simp [Fo.size, Fo.sizeL]) ((hc0.below (hbwd.trans (hb.mono (by omega)))).mono (OneR.mono _) (by omega)))
          have HMR := Lib.hid hmr
          have HBD := Lib.hid hbwd
          clear hmr hot hbwd hlm hrow7 hMD hbd hsz2 hl0 hc0 hex hsz hex30 HLO HFEW HXO HXP HRG HE0 HDF HP HNO
          generalize (if askE d (ps ++ [neverP nm es]) c = 0 then appliedL d (ps ++ [neverP nm es]) c else []) = dl at *
          generalize askE d (ps ++ [neverP nm es]) c = eg at *
          generalize (if askE d ps c = 0 then appliedL d ps c else []) = al at *
          generalize askE d ps c = er at *
          obtain ⟨y0, y1, y2⟩ := HL3.out
          go_upto_region 16 with (go_at_call 12; refine (HAPP.out _ (Below.refl _ _)).mono ?_; rintro e w8 ⟨u8, rfl, hb8, hu8⟩; obtain ⟨aa, ca, rfl, _, _, _⟩ := SlIn.shape hu8; have HB8 := Lib.hid hb8; have HU8 := Lib.hid hu8; obtain ⟨n0, n1, n2⟩ := k3_up HO3.out hb8 (by omega); clear hb8 hu8 y0 y1 y2)
          go_upto_region 17 with (go_at_call 12; refine (HAPO.out _ HB8.out).mono ?_; rintro e w9 ⟨u9, rfl, hb9, hu9⟩; obtain ⟨ba, ca2, rfl, _, _, _⟩ := SlIn.shape hu9; have HB9 := Lib.hid (HB8.out.trans (hb9.mono HB8.out.size)); have HU9 := Lib.hid (strs_up HU8.out hb9); have HV9 := Lib.hid hu9; obtain ⟨m0, m1, m2⟩ := k3_up HM3.out HB9.out (by omega); clear hb9 hu9 n0 n1 n2)
          go_upto_region 18 with (go_at_call 12; refine (HAPM.out _ HB9.out).mono ?_; rintro e w10 ⟨u10, rfl, hb10, hu10⟩; obtain ⟨da, ca3, rfl, _, _, _⟩ := SlIn.shape hu10; have HB10 := Lib.hid (HB9.out.trans (hb10.mono HB9.out.size)); have HU10 := Lib.hid (strs_up HU9.out hb10); have HV10 := Lib.hid (strs_up HV9.out hb10); have HD10 := Lib.hid hu10; clear hb10 hu10 m0 m1 m2)
          have HBZ := Lib.hid (HBD.out.trans (HB10.out.mono (by omega)))
          clear HB8 HB9 HB10 HU8 HU9 HV9 HAPP HAPO HAPM
          by_cases h13 : eg = 13
          · subst h13
            clear HMR
            go_wp2_with (go_at_call 16; refine (same_eq HU10.out HV10.out rfl).mono ?_; rintro e w11 ⟨rfl, hb11⟩; have HB11 := Lib.hid (HBZ.out.trans (hb11.mono HBZ.out.size)); clear hb11)
            go_ret
            exact ⟨rfl, HB11.out⟩
          · obtain ⟨h1, h2⟩ := HMR.out.resolve_left h13
            subst h1
            subst h2
            have e13 : (eg == 13) = false := by simpa using h13
            clear HMR h13
            go_wp2_with (first
              | (go_at_call_of 16 ba; refine (same_eq HU10.out HV10.out rfl).mono ?_; rintro e w11 ⟨rfl, hb11⟩; have HB11 := Lib.hid (HBZ.out.trans (hb11.mono HBZ.out.size)); have HU11 := Lib.hid (strs_up HU10.out hb11); have HD11 := Lib.hid (strs_up HD10.out hb11); clear hb11)
              | (go_at_call_of 16 da; refine (same_eq HU11.out HD11.out rfl).mono ?_; rintro e w12 ⟨rfl, hb12⟩; have HB12 := Lib.hid (HB11.out.trans (hb12.mono HB11.out.size)); clear hb12))
            go_ret
            exact ⟨rfl, HB12.out⟩
end

end Go.Proofs.YtihpoecdnchioaaGreatDoor
