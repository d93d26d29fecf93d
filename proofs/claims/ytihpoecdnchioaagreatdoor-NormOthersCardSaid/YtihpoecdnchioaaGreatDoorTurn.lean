/- A slice that is built of one provision, as an operation of a walk; the walk of law14.turned. A bound on the number of provisions. -/
import Derived.Test.YtihpoecdnchioaaGreatDoorPvRow
import Derived.Test.YtihpoecdnchioaaGreatDoorFew
import Derived.Deep.AppendLies
import Derived.Test.YtihpoecdnchioaaGreatDoorLaws
import Derived.Deep.RegionLaw
import Derived.Deep.RegionHeld3
import Derived.Maps.AppendAt
import Derived.BigQuiet
namespace Go.Proofs.YtihpoecdnchioaaGreatDoor
open Go.RowKit

theorem exec_build_pv {a : Act} {w : World} {o : Oper} (x : Operand) (ho : o.op = .buildSlice 25 1 #[(0, x)]) (p : Pv) (ak : Option Addr) (ck : Nat) (ae : Option Addr) (ce : Nat) (hx : a.eval x = .agg (pvC p ak ck ae ce).toArray) :
    (execOp a.eval o).run Tryz.prog w = .ok (.value (.slice (some ⟨w.heap.size, 0, none⟩) 1 1)) (w.alloc (.cells (pvC p ak ck ae ce).toArray 49)) := by
  unfold execOp
  simp only [ho, List.map_toArray, List.map_cons, List.map_nil, hx, Sem.run_bind, run_buildSlice_pv, Result.andThen_ok, Sem.run_pure]

theorem wp_build_pv {op : Oper} {a : Act} {w : World} {K : Act → World → Prop} {Q : Exit → Act → World → Prop} (x : Operand) (ho : op.op = .buildSlice 25 1 #[(0, x)]) (p : Pv) (ak : Option Addr) (ck : Nat) (ae : Option Addr) (ce : Nat) (hx : a.eval x = .agg (pvC p ak ck ae ce).toArray)
    (h : K (a.put op.dst (.slice (some ⟨w.heap.size, 0, none⟩) 1 1)) (w.alloc (.cells (pvC p ak ck ae ce).toArray 49))) : op.wp Tryz.prog a w K Q := by
  unfold Oper.wp
  rw [exec_build_pv x ho p ak ck ae ce hx]
  exact h

theorem wpList_build_pv {ops : Array Oper} {rest : List Oper} {op : Oper} {a : Act} {w : World} {Q : Exit → Act → World → Prop} (hgd : op.guard = none) (x : Operand) (ho : op.op = .buildSlice 25 1 #[(0, x)]) (p : Pv) (ak : Option Addr) (ck : Nat) (ae : Option Addr) (ce : Nat) (hx : a.eval x = .agg (pvC p ak ck ae ce).toArray)
    (h : wpList Tryz.prog ops Q rest (a.put op.dst (.slice (some ⟨w.heap.size, 0, none⟩) 1 1)) (w.alloc (.cells (pvC p ak ck ae ce).toArray 49))) : wpList Tryz.prog ops Q (op :: rest) a w :=
  wpList_plain hgd fun _ hK => wp_build_pv x ho p ak ck ae ce hx (hK _ _ h)

/-- at a step of a region that draws its order -/
theorem step_build_pv {ops : Array Oper} {o : Oper} {a : Act} {w : World} {K : Act → World → Prop} {Q : Exit → Act → World → Prop} {E : Prop} (hgd : o.guard = none) (x : Operand) (ho : o.op = .buildSlice 25 1 #[(0, x)]) (p : Pv) (ak : Option Addr) (ck : Nat) (ae : Option Addr) (ce : Nat)
    (hx : a.eval x = .agg (pvC p ak ck ae ce).toArray) (H : Nat) (hH : w.heap.size = H) (h : K (a.put o.dst (.slice (some ⟨H, 0, none⟩) 1 1)) (w.alloc (.cells (pvC p ak ck ae ce).toArray 49))) :
    if Region.wanted o (yielded ops a.tmps) = true then Oper.wp Tryz.prog o a w K Q else E := by
  rw [if_pos (by simp [Region.wanted, hgd])]
  subst hH
  exact wp_build_pv x ho p ak ck ae ce hx h

end Go.Proofs.YtihpoecdnchioaaGreatDoor

namespace Go.Proofs.YtihpoecdnchioaaGreatDoor
open Go.RowKit

theorem news_blk (w : World) (l : List Value) (t : TypeId) : ∀ j u, l[j]? = some u → (w.alloc (.cells l.toArray t)).cell? ((⟨w.heap.size, 0, none⟩ : Addr).add j) = some u := by
  intro j u hj
  have := (Blk.new w t l.toArray).cell j
  rw [Addr.add_mid, Nat.zero_add, this]
  simpa using hj

theorem rev_take {α : Type} (l : List α) (m : Nat) (h : m < l.length) : l.reverse.take (l.length - m) = l.reverse.take (l.length - (m + 1)) ++ [l[m]] := by
  rw [show l.length - m = l.length - (m + 1) + 1 by omega, List.take_succ_eq_append_getElem (by simp; omega), List.getElem_reverse]
  congr 2
  simp only [show l.length - 1 - (l.length - (m + 1)) = m by omega]

section
set_option maxRecDepth 100000 in
set_option maxHeartbeats 4000000 in
theorem turned_any (d : List Fa) (ps : List Pv) (v : Value) (w : World) (B : Nat) (hn : ps.length ≤ 1000) (hB : B ≤ w.heap.size) (hl : LawIn w B d ps v) :
    Calls Tryz.prog 22 #[v] w fun e w' => ∃ u, e = .returned u ∧ Below w.heap.size w w' ∧ LawIn w' w'.heap.size d ps.reverse u := by
  have hl1 := hl.mono hB
  obtain ⟨u1, u2, asn, ns, cs, rfl, hd, hp⟩ := hl1
  obtain ⟨ad, cd, rfl, d1, d2, _⟩ := SlIn.shape hd
  obtain ⟨ap, cp, rfl, p1, p2, _⟩ := SlIn.shape hp
  unfold maxLen at p2
  have hbw : Below w.heap.size w ((w.alloc (.cells #[.slice ad d.length cd, .slice ap ps.length cp, .slice asn ns cs] 28)).alloc (.cells #[.slice none 0 0, .slice none 0 0, .slice none 0 0] 28)) := ((Below.refl _ _).alloc (Nat.le_refl _) _).alloc (by simp) _
  have K0 : Blk ((w.alloc (.cells #[.slice ad d.length cd, .slice ap ps.length cp, .slice asn ns cs] 28)).alloc (.cells #[.slice none 0 0, .slice none 0 0, .slice none 0 0] 28)) w.heap.size 28 #[.slice ad d.length cd, .slice ap ps.length cp, .slice asn ns cs] := (Blk.new w 28 #[.slice ad d.length cd, .slice ap ps.length cp, .slice asn ns cs]).below ((Below.refl _ _).alloc (Nat.le_refl _) _)
  have K1 : Blk ((w.alloc (.cells #[.slice ad d.length cd, .slice ap ps.length cp, .slice asn ns cs] 28)).alloc (.cells #[.slice none 0 0, .slice none 0 0, .slice none 0 0] 28)) (w.heap.size + 1) 28 #[.slice none 0 0, .slice none 0 0, .slice none 0 0] := by have h := Blk.new (w.alloc (.cells #[.slice ad d.length cd, .slice ap ps.length cp, .slice asn ns cs] 28)) 28 #[.slice none 0 0, .slice none 0 0, .slice none 0 0]; simp only [World.size_alloc] at h; exact h
  obtain ⟨ip, zp, hip, hsp_, hzp, hzc, hbp⟩ := pv_info
  have HS2 : Hid (((w.alloc (.cells #[.slice ad d.length cd, .slice ap ps.length cp, .slice asn ns cs] 28)).alloc (.cells #[.slice none 0 0, .slice none 0 0, .slice none 0 0] 28)).heap.size = w.heap.size + 1 + 1) := by show _ = _; simp
  have x0 : ((w.alloc (.cells #[.slice ad d.length cd, .slice ap ps.length cp, .slice asn ns cs] 28)).alloc (.cells #[.slice none 0 0, .slice none 0 0, .slice none 0 0] 28)).cell? ⟨w.heap.size, 0, none⟩ = some (.slice ad d.length cd) := K0.cell 0
  have x1 : ((w.alloc (.cells #[.slice ad d.length cd, .slice ap ps.length cp, .slice asn ns cs] 28)).alloc (.cells #[.slice none 0 0, .slice none 0 0, .slice none 0 0] 28)).cell? ⟨w.heap.size, 1, none⟩ = some (.slice ap ps.length cp) := K0.cell 1
  have HBW := Lib.hid hbw
  have X1 := Lib.hid x1
  have HK1 := Lib.hid K1
  have HD := Lib.hid hd
  have HP := Lib.hid hp
  clear hl hd hp hbw K0 K1
  go_enter Tryz.func22, Tryz.ntmps22
  go_wp2
  go_loopw [4] (fun iv wr => ∃ (m : Nat) (bv : Value) (xs : List PvA), m ≤ ps.length ∧ iv = .int .i64 ((m : Int) - 1) ∧ Hid (LawB w ((w.alloc (.cells #[.slice ad d.length cd, .slice ap ps.length cp, .slice asn ns cs] 28)).alloc (.cells #[.slice none 0 0, .slice none 0 0, .slice none 0 0] 28)) wr (.slice ad d.length cd) (ps.reverse.take (ps.length - m)) bv xs)) (fun iv _ => (intOf iv + 1).toNat)
  case atStart => exact ⟨ps.length, .slice none 0 0, [], Nat.le_refl _, rfl, by rw [Nat.sub_self]; exact LawB.start w _ _⟩
  case round =>
    obtain ⟨m, bv, xs, hm, hiv, hlb⟩ := hrel
    obtain ⟨ba, bn, bc, rfl⟩ := own_shape hlb.out.row
    have hl2 := hlb.out.lt
    simp only [World.size_alloc] at hl2
    have b0 : Below w.heap.size w wr := HBW.out.trans (hlb.out.bel.mono (by rw [HS2.out]; omega))
    have q1 := (hlb.out.bel.cell (p := ⟨w.heap.size, 1, none⟩) (by rw [HS2.out]; show w.heap.size < _; omega)).trans x1
    have o0 : wr.cell? ⟨w.heap.size + 1 + 1, 0, none⟩ = some (.slice ad d.length cd) := by have h := hlb.out.blk.cell 0; rw [HS2.out] at h; exact h
    have o1 : wr.cell? ⟨w.heap.size + 1 + 1, 1, none⟩ = some (.slice ba bn bc) := by have h := hlb.out.blk.cell 1; rw [HS2.out] at h; exact h
    have HLB := hlb
    have HB0 := Lib.hid b0
    clear b0 x0 x1
    cases m with
    | zero =>
      obtain rfl : u4 = .int .i64 (-1) := by rw [hiv]; rfl
      have o2 : wr.cell? ⟨w.heap.size + 1 + 1, 2, none⟩ = some (.slice none 0 0) := by have h := hlb.out.blk.cell 2; rw [HS2.out] at h; exact h
      have hk := HK1.out.grown (W' := wr) (row := none) ⟨hlb.out.bel.os, hlb.out.bel.tape, hlb.out.bel.output, hlb.out.bel.size, fun k hk _ => hlb.out.bel.block k hk⟩ (by simp)
      have r0 : wr.cell? ⟨w.heap.size + 1, 0, none⟩ = some (.slice none 0 0) := hk.cell 0
      have r1 : wr.cell? ⟨w.heap.size + 1, 1, none⟩ = some (.slice none 0 0) := hk.cell 1
      have r2 : wr.cell? ⟨w.heap.size + 1, 2, none⟩ = some (.slice none 0 0) := hk.cell 2
      have f0 := hk.frozen 0
      have f1 := hk.frozen 1
      have f2 := hk.frozen 2
      clear hiv hlb hk q1
      go_wp2
      refine bodyPost_ret (results_cell1 (v := .agg #[.slice ad d.length cd, .slice ba bn bc, .slice none 0 0]) rfl _ _ _ rfl (by go_simp)) rfl ⟨_, rfl, ?_, ?_⟩
      · exact ((HB0.out.setCell (p := ⟨w.heap.size + 1, 0, none⟩) (by simp) _).setCell (p := ⟨w.heap.size + 1, 1, none⟩) (by simp) _).setCell (p := ⟨w.heap.size + 1, 2, none⟩) (by simp) _
      · have hne : ∀ g, Value.ownBlock (.slice ba bn bc) = some g → g ≠ w.heap.size + 1 := fun g e => by have := (HLB.out.own_lt g e).1; rw [HS2.out] at this; omega
        have h := law_row (own_struck (own_struck (own_struck HLB.out.row ⟨w.heap.size + 1, 0, none⟩ (.slice ad d.length cd) hne) ⟨w.heap.size + 1, 1, none⟩ (.slice ba bn bc) hne) ⟨w.heap.size + 1, 2, none⟩ (.slice none 0 0) hne) HLB.out.ok (((HB0.out.setCell (p := ⟨w.heap.size + 1, 0, none⟩) (by simp) _).setCell (p := ⟨w.heap.size + 1, 1, none⟩) (by simp) _).setCell (p := ⟨w.heap.size + 1, 2, none⟩) (by simp) _) HD.out
        rw [HLB.out.pvs, Nat.sub_zero, List.take_of_length_le (by simp)] at h
        exact h
    | succ m =>
      obtain rfl : u4 = .int .i64 (m : Int) := by rw [hiv]; congr 1; omega
      have hlt : m < ps.length := by omega
      obtain ⟨b, off, rfl, hbB, ak, ck, ae, ce, hr, hf, he, hzz⟩ := SlIn.at HP.out m hlt
      have hxl : xs.length ≤ 1000 := by have := hlb.out.len; rw [List.length_take] at this; simp at this; omega
      have hrt := rev_take ps m hlt
      have hrq : wr.rangeAt b (off + m * 23) (pvC _ ak ck ae ce) := fun j v hv => (HB0.out.cell (p := ⟨b, off + m * 23 + j, none⟩) hbB).trans (hr j v hv)
      have hok : PvA.Ok w w.heap.size ⟨ps[m], ak, ck, ae, ce⟩ := ⟨hf, he, hzz⟩
      generalize ps[m] = p at *
      have hm0 : (0 : Int) ≤ (m : Int) := Int.natCast_nonneg _
      have hm1 : (m : Int) < (ps.length : Int) := by omega
      have hm2 : (m : Int) ≤ 1000 := by omega
      have HRT := Lib.hid hrt
      have HOK := Lib.hid hok
      have HROW : Hid (wr.ownsRow (w.heap.size + 1 + 1 + 1) 49 23 (.slice ba bn bc) xs.length (xs.flatMap PvA.cells)) := by have h := hlb.out.row; rw [HS2.out] at h; exact h
      have f1 : wr.frozen? ⟨w.heap.size + 1 + 1, 1, none⟩ = false := by have h := hlb.out.blk.frozen 1; rw [HS2.out] at h; exact h
      have S0 : Hid (Below (w.heap.size + 1 + 1) ((w.alloc (.cells #[.slice ad d.length cd, .slice (some ⟨b, off, none⟩) ps.length cp, .slice asn ns cs] 28)).alloc (.cells #[.slice none 0 0, .slice none 0 0, .slice none 0 0] 28)) wr.drew) := (show Below (w.heap.size + 1 + 1) ((w.alloc (.cells #[.slice ad d.length cd, .slice (some ⟨b, off, none⟩) ps.length cp, .slice asn ns cs] 28)).alloc (.cells #[.slice none 0 0, .slice none 0 0, .slice none 0 0] 28)) wr by have h := hlb.out.bel; rw [HS2.out] at h; exact h).trans (World.drewN_below _ _ 1)
      have SA : Hid (Below (w.heap.size + 1 + 1) ((w.alloc (.cells #[.slice ad d.length cd, .slice (some ⟨b, off, none⟩) ps.length cp, .slice asn ns cs] 28)).alloc (.cells #[.slice none 0 0, .slice none 0 0, .slice none 0 0] 28)) (wr.alloc (.cells (pvC p ak ck ae ce).toArray 49)).drew) := ((show Below (w.heap.size + 1 + 1) ((w.alloc (.cells #[.slice ad d.length cd, .slice (some ⟨b, off, none⟩) ps.length cp, .slice asn ns cs] 28)).alloc (.cells #[.slice none 0 0, .slice none 0 0, .slice none 0 0] 28)) wr by have h := hlb.out.bel; rw [HS2.out] at h; exact h).alloc (by omega) _).trans (World.drewN_below _ _ 1)
      have SX := Lib.hid (fun w9 (h : Below (w.heap.size + 1 + 1) ((w.alloc (.cells #[.slice ad d.length cd, .slice (some ⟨b, off, none⟩) ps.length cp, .slice asn ns cs] 28)).alloc (.cells #[.slice none 0 0, .slice none 0 0, .slice none 0 0] 28)) w9) => (h.cell (p := ⟨w.heap.size, 1, none⟩) (by simp; omega)).trans X1.out)
      have SR := Lib.hid (fun w9 (h : Below (w.heap.size + 1 + 1) ((w.alloc (.cells #[.slice ad d.length cd, .slice (some ⟨b, off, none⟩) ps.length cp, .slice asn ns cs] 28)).alloc (.cells #[.slice none 0 0, .slice none 0 0, .slice none 0 0] 28)) w9) => (fun j v hv => ((HBW.out.trans (h.mono (by omega))).cell (p := ⟨b, off + m * 23 + j, none⟩) hbB).trans (hr j v hv) : w9.rangeAt b (off + m * 23) (pvC p ak ck ae ce)))
      have SG := Lib.hid (fun (w9 : World) (gg : Nat) (h : (wr.alloc (.cells (pvC p ak ck ae ce).toArray 49)).drew.grownBy w9 (Value.ownBlock (.slice ba bn bc))) => (SA.out.grown h (by simp; omega) (fun g e => by have := (HROW.out.lt _ e).1; omega) : Below (w.heap.size + 1 + 1) ((w.alloc (.cells #[.slice ad d.length cd, .slice (some ⟨b, off, none⟩) ps.length cp, .slice asn ns cs] 28)).alloc (.cells #[.slice none 0 0, .slice none 0 0, .slice none 0 0] 28)) w9))
      clear hiv hlb hr hf he hzz hrt hrq hok o0
      go_wp2
      refine wp_region_held_drew (S := (fun w' : World => Below (w.heap.size + 1 + 1) ((w.alloc (.cells #[.slice ad d.length cd, .slice (some ⟨b, off, none⟩) ps.length cp, .slice asn ns cs] 28)).alloc (.cells #[.slice none 0 0, .slice none 0 0, .slice none 0 0] 28)) w')) (by kernel_rfl) S0.out (fun hHeld => ?_)
      refine wpAnyH_take (i := 0) (oi := { dst := some 16, op := Go.Op.fieldAddr 28 (Go.Operand.tmp 3) 1, type := 0, pos := "law.go:84", after := #[], guard := none }) (v := ?v0) rfl (by kernel_rfl) (by kernel_rfl) (by kernel_rfl) (fun _ _ _ h => h) (Or.inl ⟨by rfl, ?y0⟩) (by assumption) ?_
      case y0 => (intro w9 hSw; have hSx := SX.out w9 hSw; go_simp; try with_reducible rfl)
      try simp only [Act.put, List.setIfInBounds_toArray, List.set_cons_zero, List.set_cons_succ]
      refine wpAnyH_take (i := 2) (oi := { dst := some 18, op := Go.Op.fieldAddr 28 (Go.Operand.tmp 1) 1, type := 0, pos := "law.go:84", after := #[], guard := none }) (v := ?v2) rfl (by kernel_rfl) (by kernel_rfl) (by kernel_rfl) (fun _ _ _ h => h) (Or.inl ⟨by rfl, ?y2⟩) (by assumption) ?_
      case y2 => (intro w9 hSw; have hSx := SX.out w9 hSw; go_simp; try with_reducible rfl)
      try simp only [Act.put, List.setIfInBounds_toArray, List.set_cons_zero, List.set_cons_succ]
      refine wpAnyH_take (i := 3) (oi := { dst := some 19, op := Go.Op.load 25 (Go.Operand.tmp 18), type := 25, pos := "law.go:84", after := #[{ on := 2, ground := Go.Ground.data }], guard := none }) (v := ?v3) rfl (by kernel_rfl) (by kernel_rfl) (by kernel_rfl) (fun _ _ _ h => h) (Or.inl ⟨by rfl, ?y3⟩) (by assumption) ?_
      case y3 => (intro w9 hSw; have hSx := SX.out w9 hSw; go_simp; try with_reducible rfl)
      try simp only [Act.put, List.setIfInBounds_toArray, List.set_cons_zero, List.set_cons_succ]
      refine wpAnyH_take (i := 4) (oi := { dst := some 20, op := Go.Op.move (Go.Operand.tmp 4), type := 3, pos := "law.go:84", after := #[], guard := none }) (v := ?v4) rfl (by kernel_rfl) (by kernel_rfl) (by kernel_rfl) (fun _ _ _ h => h) (Or.inl ⟨by rfl, ?y4⟩) (by assumption) ?_
      case y4 => (intro w9 hSw; have hSx := SX.out w9 hSw; go_simp; try with_reducible rfl)
      try simp only [Act.put, List.setIfInBounds_toArray, List.set_cons_zero, List.set_cons_succ]
      refine wpAnyH_take (i := 5) (oi := { dst := some 21, op := Go.Op.indexAddr 25 (Go.Operand.tmp 19) (Go.Operand.tmp 20), type := 0, pos := "law.go:84", after := #[{ on := 3, ground := Go.Ground.data }, { on := 4, ground := Go.Ground.data }], guard := none }) (v := ?v5) rfl (by kernel_rfl) (by kernel_rfl) (by kernel_rfl) (fun _ _ _ h => h) (Or.inl ⟨by rfl, ?y5⟩) (by assumption) ?_
      case y5 => (intro w9 hSw; have hSx := SX.out w9 hSw; go_simp; try with_reducible rfl)
      try simp only [Act.put, List.setIfInBounds_toArray, List.set_cons_zero, List.set_cons_succ]
      refine wpAnyH_take (i := 6) (oi := { dst := some 22, op := Go.Op.load 49 (Go.Operand.tmp 21), type := 49, pos := "law.go:84", after := #[{ on := 5, ground := Go.Ground.data }], guard := none }) (v := .agg (pvC p ak ck ae ce).toArray) rfl (by kernel_rfl) (by kernel_rfl) (by kernel_rfl) (fun _ _ _ h => h) (yieldsIf_load_mid (by rfl) 49 (.tmp 21) rfl b (off + m * 23) (by rfl) (pvC p ak ck ae ce) _ (fun w9 hSw => SR.out w9 hSw) Tryz.underlying49 rfl Pv.info) (by assumption) ?_
      try simp only [Act.put, List.setIfInBounds_toArray, List.set_cons_zero, List.set_cons_succ]
      refine wpAnyH_ready (rs := [1, 7]) (by kernel_rfl) (by simp) ?_
      refine (AllReadyH.cons (o := { dst := some 17, op := Go.Op.load 25 (Go.Operand.tmp 16), type := 25, pos := "law.go:84", after := #[{ on := 0, ground := Go.Ground.data }], guard := none }) rfl (fun K hK => ?_) (AllReadyH.cons (o := { dst := some 23, op := Go.Op.buildSlice 25 1 #[(0, Go.Operand.tmp 22)], type := 25, pos := "law.go:84", after := #[{ on := 6, ground := Go.Ground.data }], guard := none }) rfl (fun K hK => ?_) AllReadyH.nil))
      · go_simp
        refine hK.out _ _ ?_ (fun hHeld => ?_)
        · exact S0.out
        clear hK K
        try simp only [Act.put, List.setIfInBounds_toArray, List.set_cons_zero, List.set_cons_succ]
        refine wpAnyH_ready (rs := [7]) (by kernel_rfl) (by simp) ?_
        refine (AllReadyH.cons (o := { dst := some 23, op := Go.Op.buildSlice 25 1 #[(0, Go.Operand.tmp 22)], type := 25, pos := "law.go:84", after := #[{ on := 6, ground := Go.Ground.data }], guard := none }) rfl (fun K hK => ?_) AllReadyH.nil)
        refine step_build_pv rfl (.tmp 22) rfl p ak ck ae ce (by rfl) wr.heap.size (by simp) ?_
        change K _ (wr.alloc (.cells (pvC p ak ck ae ce).toArray 49)).drew
        refine hK.out _ _ ?_ (fun hHeld => ?_)
        · exact SA.out
        clear hK K
        try simp only [Act.put, List.setIfInBounds_toArray, List.set_cons_zero, List.set_cons_succ]
        refine wpAnyH_ready (rs := [8]) (by kernel_rfl) (by simp) ?_
        refine (AllReadyH.cons (o := { dst := some 24, op := Go.Op.call { callee := Go.Callee.builtin Go.Builtin.append, args := #[Go.Operand.tmp 17, Go.Operand.tmp 23], argTypes := #[25, 25] }, type := 25, pos := "law.go:84", after := #[{ on := 1, ground := Go.Ground.data }, { on := 7, ground := Go.Ground.data }], guard := none }) rfl (fun K hK => ?_) AllReadyH.nil)
        refine step_append_lies _ (by rfl) _ _ _ (by rfl) (w.heap.size + 1 + 1 + 1) 49 ip zp 23 312 Tryz.underlying25 hip hzp hsp_ hbp hzc (by omega) (.slice ba bn bc) xs.length _ (by rfl) ((HROW.out.alloc _).drew) ⟨wr.heap.size, 0, none⟩ 1 1 (pvC p ak ck ae ce) (by rfl) (by rfl) (World.news_of_block (cs := (pvC p ak ck ae ce).toArray) (t := 49) (fr := (0, 0)) (heap_alloc_new wr _)) (pvC_ones _ _ _ _ _) (by omega) (by unfold maxLen; omega) (by omega) (by simp; omega) (wr.heap.size + 1) (by simp) ?_
        intro gg cap w1 hown1 hgrow hat hlt1
        have hbb := (hgrow.block (w.heap.size + 1 + 1) (by simp; omega) (fun e => by have := (HROW.out.lt _ e.symm).1; omega)).trans (Below.heap_alloc wr (.cells (pvC p ak ck ae ce).toArray 49) _ (by omega))
        have s1 := (World.cell?_of_block (a := ⟨w.heap.size + 1 + 1, 1, none⟩) hbb).trans o1
        have g1 := (World.frozen?_of_block (a := ⟨w.heap.size + 1 + 1, 1, none⟩) hbb).trans f1
        have HLN := HLB.out.push ⟨p, ak, ck, ae, ce⟩ HOK.out (by rw [HS2.out]; exact hown1) (cs := (pvC p ak ck ae ce).toArray) (t := 49) ⟨hgrow.os, hgrow.tape, hgrow.output, hgrow.size, hgrow.block⟩
        rw [HS2.out] at HLN
        have HLM := Lib.hid HLN
        have HB1 : Hid (Below (w.heap.size + 1 + 1) ((w.alloc (.cells #[.slice ad d.length cd, .slice (some ⟨b, off, none⟩) ps.length cp, .slice asn ns cs] 28)).alloc (.cells #[.slice none 0 0, .slice none 0 0, .slice none 0 0] 28)) w1) := SG.out w1 gg hgrow
        clear HLN hown1 hgrow hat hbb hlt1
        refine hK.out _ _ ?_ (fun hHeld => ?_)
        · exact HB1.out
        clear hK K
        try simp only [Act.put, List.setIfInBounds_toArray, List.set_cons_zero, List.set_cons_succ]
        refine wpAnyH_take (i := 9) (oi := { dst := some 25, op := Go.Op.fieldAddr 28 (Go.Operand.tmp 3) 1, type := 0, pos := "law.go:84", after := #[{ on := 0, ground := Go.Ground.phase }, { on := 1, ground := Go.Ground.phase }, { on := 2, ground := Go.Ground.phase }, { on := 3, ground := Go.Ground.phase }, { on := 4, ground := Go.Ground.phase }, { on := 5, ground := Go.Ground.phase }, { on := 6, ground := Go.Ground.phase }, { on := 7, ground := Go.Ground.phase }, { on := 8, ground := Go.Ground.phase }], guard := none }) (v := ?v9) rfl (by kernel_rfl) (by kernel_rfl) (by kernel_rfl) (fun _ _ _ h => h) (Or.inl ⟨by rfl, ?y9⟩) (by assumption) ?_
        case y9 => (intro w9 hSw; have hSx := SX.out w9 hSw; go_simp; try with_reducible rfl)
        try simp only [Act.put, List.setIfInBounds_toArray, List.set_cons_zero, List.set_cons_succ]
        refine wpAnyH_ready (rs := [10]) (by kernel_rfl) (by simp) ?_
        refine (AllReadyH.cons (o := { dst := none, op := Go.Op.store 25 (Go.Operand.tmp 25) (Go.Operand.tmp 24), type := 0, pos := "law.go:84", after := #[{ on := 9, ground := Go.Ground.data }, { on := 8, ground := Go.Ground.data }, { on := 8, ground := Go.Ground.chain }, { on := 0, ground := Go.Ground.phase }, { on := 1, ground := Go.Ground.phase }, { on := 2, ground := Go.Ground.phase }, { on := 3, ground := Go.Ground.phase }, { on := 4, ground := Go.Ground.phase }, { on := 5, ground := Go.Ground.phase }, { on := 6, ground := Go.Ground.phase }, { on := 7, ground := Go.Ground.phase }, { on := 8, ground := Go.Ground.phase }], guard := none }) rfl (fun K hK => ?_) AllReadyH.nil)
        go_simp
        refine hK.out _ _ ?_ (fun hHeld => ?_)
        · exact HB1.out.setCell (p := ⟨w.heap.size + 1 + 1, 1, none⟩) (Nat.le_refl _) _
        clear hK K
        try simp only [Act.put, List.setIfInBounds_toArray, List.set_cons_zero, List.set_cons_succ]
        refine wpAnyH_done (by kernel_rfl) ?_ _
        go_wp2
        go_roundw
        case rel => exact ⟨m, .slice (some ⟨gg, 0, none⟩) (xs.length + 1) cap, xs ++ [⟨p, ak, ck, ae, ce⟩], by omega, by go_num, by rw [HRT.out]; exact HLM⟩
        case measure => simp [intOf]
      · refine step_build_pv rfl (.tmp 22) rfl p ak ck ae ce (by rfl) wr.heap.size (by simp) ?_
        change K _ (wr.alloc (.cells (pvC p ak ck ae ce).toArray 49)).drew
        refine hK.out _ _ ?_ (fun hHeld => ?_)
        · exact SA.out
        clear hK K
        try simp only [Act.put, List.setIfInBounds_toArray, List.set_cons_zero, List.set_cons_succ]
        refine wpAnyH_ready (rs := [1]) (by kernel_rfl) (by simp) ?_
        refine (AllReadyH.cons (o := { dst := some 17, op := Go.Op.load 25 (Go.Operand.tmp 16), type := 25, pos := "law.go:84", after := #[{ on := 0, ground := Go.Ground.data }], guard := none }) rfl (fun K hK => ?_) AllReadyH.nil)
        go_simp
        refine hK.out _ _ ?_ (fun hHeld => ?_)
        · exact SA.out
        clear hK K
        try simp only [Act.put, List.setIfInBounds_toArray, List.set_cons_zero, List.set_cons_succ]
        refine wpAnyH_ready (rs := [8]) (by kernel_rfl) (by simp) ?_
        refine (AllReadyH.cons (o := { dst := some 24, op := Go.Op.call { callee := Go.Callee.builtin Go.Builtin.append, args := #[Go.Operand.tmp 17, Go.Operand.tmp 23], argTypes := #[25, 25] }, type := 25, pos := "law.go:84", after := #[{ on := 1, ground := Go.Ground.data }, { on := 7, ground := Go.Ground.data }], guard := none }) rfl (fun K hK => ?_) AllReadyH.nil)
        refine step_append_lies _ (by rfl) _ _ _ (by rfl) (w.heap.size + 1 + 1 + 1) 49 ip zp 23 312 Tryz.underlying25 hip hzp hsp_ hbp hzc (by omega) (.slice ba bn bc) xs.length _ (by rfl) ((HROW.out.alloc _).drew) ⟨wr.heap.size, 0, none⟩ 1 1 (pvC p ak ck ae ce) (by rfl) (by rfl) (World.news_of_block (cs := (pvC p ak ck ae ce).toArray) (t := 49) (fr := (0, 0)) (heap_alloc_new wr _)) (pvC_ones _ _ _ _ _) (by omega) (by unfold maxLen; omega) (by omega) (by simp; omega) (wr.heap.size + 1) (by simp) ?_
        intro gg cap w1 hown1 hgrow hat hlt1
        have hbb := (hgrow.block (w.heap.size + 1 + 1) (by simp; omega) (fun e => by have := (HROW.out.lt _ e.symm).1; omega)).trans (Below.heap_alloc wr (.cells (pvC p ak ck ae ce).toArray 49) _ (by omega))
        have s1 := (World.cell?_of_block (a := ⟨w.heap.size + 1 + 1, 1, none⟩) hbb).trans o1
        have g1 := (World.frozen?_of_block (a := ⟨w.heap.size + 1 + 1, 1, none⟩) hbb).trans f1
        have HLN := HLB.out.push ⟨p, ak, ck, ae, ce⟩ HOK.out (by rw [HS2.out]; exact hown1) (cs := (pvC p ak ck ae ce).toArray) (t := 49) ⟨hgrow.os, hgrow.tape, hgrow.output, hgrow.size, hgrow.block⟩
        rw [HS2.out] at HLN
        have HLM := Lib.hid HLN
        have HB1 : Hid (Below (w.heap.size + 1 + 1) ((w.alloc (.cells #[.slice ad d.length cd, .slice (some ⟨b, off, none⟩) ps.length cp, .slice asn ns cs] 28)).alloc (.cells #[.slice none 0 0, .slice none 0 0, .slice none 0 0] 28)) w1) := SG.out w1 gg hgrow
        clear HLN hown1 hgrow hat hbb hlt1
        refine hK.out _ _ ?_ (fun hHeld => ?_)
        · exact HB1.out
        clear hK K
        try simp only [Act.put, List.setIfInBounds_toArray, List.set_cons_zero, List.set_cons_succ]
        refine wpAnyH_take (i := 9) (oi := { dst := some 25, op := Go.Op.fieldAddr 28 (Go.Operand.tmp 3) 1, type := 0, pos := "law.go:84", after := #[{ on := 0, ground := Go.Ground.phase }, { on := 1, ground := Go.Ground.phase }, { on := 2, ground := Go.Ground.phase }, { on := 3, ground := Go.Ground.phase }, { on := 4, ground := Go.Ground.phase }, { on := 5, ground := Go.Ground.phase }, { on := 6, ground := Go.Ground.phase }, { on := 7, ground := Go.Ground.phase }, { on := 8, ground := Go.Ground.phase }], guard := none }) (v := ?v9) rfl (by kernel_rfl) (by kernel_rfl) (by kernel_rfl) (fun _ _ _ h => h) (Or.inl ⟨by rfl, ?y9⟩) (by assumption) ?_
        case y9 => (intro w9 hSw; have hSx := SX.out w9 hSw; go_simp; try with_reducible rfl)
        try simp only [Act.put, List.setIfInBounds_toArray, List.set_cons_zero, List.set_cons_succ]
        refine wpAnyH_ready (rs := [10]) (by kernel_rfl) (by simp) ?_
        refine (AllReadyH.cons (o := { dst := none, op := Go.Op.store 25 (Go.Operand.tmp 25) (Go.Operand.tmp 24), type := 0, pos := "law.go:84", after := #[{ on := 9, ground := Go.Ground.data }, { on := 8, ground := Go.Ground.data }, { on := 8, ground := Go.Ground.chain }, { on := 0, ground := Go.Ground.phase }, { on := 1, ground := Go.Ground.phase }, { on := 2, ground := Go.Ground.phase }, { on := 3, ground := Go.Ground.phase }, { on := 4, ground := Go.Ground.phase }, { on := 5, ground := Go.Ground.phase }, { on := 6, ground := Go.Ground.phase }, { on := 7, ground := Go.Ground.phase }, { on := 8, ground := Go.Ground.phase }], guard := none }) rfl (fun K hK => ?_) AllReadyH.nil)
        go_simp
        refine hK.out _ _ ?_ (fun hHeld => ?_)
        · exact HB1.out.setCell (p := ⟨w.heap.size + 1 + 1, 1, none⟩) (Nat.le_refl _) _
        clear hK K
        try simp only [Act.put, List.setIfInBounds_toArray, List.set_cons_zero, List.set_cons_succ]
        refine wpAnyH_done (by kernel_rfl) ?_ _
        go_wp2
        go_roundw
        case rel => exact ⟨m, .slice (some ⟨gg, 0, none⟩) (xs.length + 1) cap, xs ++ [⟨p, ak, ck, ae, ce⟩], by omega, by go_num, by rw [HRT.out]; exact HLM⟩
        case measure => simp [intOf]
end

end Go.Proofs.YtihpoecdnchioaaGreatDoor
