/- What an asker is, what it knows. No conditions. -/
import Derived.Test.YtihpoecdnchioaaGreatDoorSl2
import Derived.Test.YtihpoecdnchioaaGreatDoorVisit
import Derived.Test.YtihpoecdnchioaaGreatDoorHolds2
import Derived.Deep.RegionHeld3
namespace Go.Proofs.YtihpoecdnchioaaGreatDoor
open Go.RowKit Tj

/-- what an asker is -/
structure AEnv (w0 : World) (B ab nb bb mk : Nat) (d : List Fa) (ps : List Pv) (c : List Int) (rows : List (List Nat)) (ad : Option Addr) (cd : Nat) (ap : Option Addr) (cp : Nat) (ac : Option Addr) (cc : Nat) : Prop where
  hB : B ≤ mk
  mlt : mk < ab
  alt : ab < w0.heap.size
  nlt : nb < mk
  blt : bb < mk
  a0 : w0.cell? ⟨ab, 0, none⟩ = some (.pointer (some ⟨nb, 0, none⟩))
  a1 : w0.cell? ⟨ab, 1, none⟩ = some (.slice ac c.length cc)
  a2 : w0.cell? ⟨ab, 2, none⟩ = some (.map (some mk))
  n0 : w0.cell? ⟨nb, 0, none⟩ = some (.slice ad d.length cd)
  n1 : w0.cell? ⟨nb, 1, none⟩ = some (.slice ap ps.length cp)
  n4 : w0.cell? ⟨nb, 4, none⟩ = some (.slice (some ⟨bb, 0, none⟩) ps.length ps.length)
  rw_ : ∀ k, k < ps.length → ∃ v, w0.cell? ⟨bb, k, none⟩ = some v ∧ IntsIn w0 mk ((rows.getD k []).map fun x : Nat => (x : Int)) v
  dom : DomIn w0 B d (.agg #[.slice ad d.length cd])
  prv : SlIn PvR 23 w0 B ps (.slice ap ps.length cp)
  cas : IntsIn w0 B c (.slice ac c.length cc)
  rlt : ∀ k, ∀ x ∈ rows.getD k [], x < ps.length

/-- what is known -/
structure Kn (w0 : World) (mk ab : Nat) (ap : Nat → Bool) (W : World) : Prop where
  gr : w0.grownBy W (some mk)
  bel : Below mk w0 W
  ask : W.heap[ab]? = w0.heap[ab]?
  map : ∃ l, MapIs (Value.int .i64) Value.bool W mk l ∧ ∀ (k : Nat) (b : Bool), l.lookup (k : Int) = some b → b = ap k

theorem Kn.below {w0 W W' : World} {mk ab : Nat} {ap : Nat → Bool} (h : Kn w0 mk ab ap W) (hm : mk < ab) (ha : ab < w0.heap.size) (hb : Below W.heap.size W W') : Kn w0 mk ab ap W' := by
  obtain ⟨l, hm1, hl⟩ := h.map
  have hs := h.bel.size
  exact ⟨⟨hb.os.trans h.gr.os, hb.tape.trans h.gr.tape, hb.output.trans h.gr.output, Nat.le_trans h.gr.size hb.size, fun k hk hne => (hb.block k (by omega)).trans (h.gr.block k hk hne)⟩, h.bel.trans (hb.mono (by omega)), (hb.block ab (by omega)).trans h.ask, l, hm1.of_block (hb.block mk (by omega)), hl⟩
theorem Kn.drew {w0 W : World} {mk ab : Nat} {ap : Nat → Bool} (h : Kn w0 mk ab ap W) (hm : mk < ab) (ha : ab < w0.heap.size) : Kn w0 mk ab ap W.drew := h.below hm ha (Below.refl _ _).drew
theorem Kn.base {w0 W : World} {mk ab : Nat} {ap : Nat → Bool} (h : Kn w0 mk ab ap W) : Kn W mk ab ap W := ⟨⟨rfl, rfl, rfl, Nat.le_refl _, fun _ _ _ => rfl⟩, Below.refl _ _, rfl, h.map⟩
theorem Kn.trans {w0 W W' : World} {mk ab : Nat} {ap : Nat → Bool} (h : Kn w0 mk ab ap W) (h' : Kn W mk ab ap W') : Kn w0 mk ab ap W' :=
  ⟨⟨h'.gr.os.trans h.gr.os, h'.gr.tape.trans h.gr.tape, h'.gr.output.trans h.gr.output, Nat.le_trans h.gr.size h'.gr.size, fun k hk hne => (h'.gr.block k (Nat.lt_of_lt_of_le hk h.gr.size) hne).trans (h.gr.block k hk hne)⟩, h.bel.trans h'.bel, h'.ask.trans h.ask, h'.map⟩
theorem Kn.grown {w0 W W' : World} {mk ab : Nat} {ap : Nat → Bool} (h : Kn w0 mk ab ap W) (hm : mk < ab) (ha : ab < w0.heap.size) {row : Option Nat} (hg : W.grownBy W' row) (hr : ∀ b, row = some b → w0.heap.size ≤ b) : Kn w0 mk ab ap W' := by
  obtain ⟨l, hm1, hl⟩ := h.map
  have hs := h.bel.size
  refine ⟨⟨hg.os.trans h.gr.os, hg.tape.trans h.gr.tape, hg.output.trans h.gr.output, Nat.le_trans h.gr.size hg.size, fun k hk hne => (hg.block k (by omega) (fun e => by have := hr k e.symm; omega)).trans (h.gr.block k hk hne)⟩, h.bel.grown hg ?_ ?_, (hg.block ab (by omega) (fun e => by have := hr ab e.symm; omega)).trans h.ask, l, hm1.grown hg (fun e => by have := hr mk e.symm; omega), hl⟩
  · omega
  · intro k e
    have := hr k e
    omega

theorem AEnv.cells {w0 : World} {B ab nb bb mk : Nat} {d : List Fa} {ps : List Pv} {c : List Int} {rows : List (List Nat)} {ad : Option Addr} {cd : Nat} {ap : Option Addr} {cp : Nat} {ac : Option Addr} {cc : Nat} (e : AEnv w0 B ab nb bb mk d ps c rows ad cd ap cp ac cc) {apf : Nat → Bool} (i : Nat) (hi : i < ps.length) :
    ∃ pb po ak ck rv rc, ap = some ⟨pb, po, none⟩ ∧ IntsIn w0 mk ((rows.getD i []).map fun x : Nat => (x : Int)) (.slice rv (rows.getD i []).length rc) ∧ (ps[i].cond).In w0 B (.agg #[.int .i64 ps[i].cond.op, .string ps[i].cond.name, .int .i64 ps[i].cond.cmp, .int .i64 ps[i].cond.n, .slice ak ps[i].cond.kids.length ck]) ∧
      ∀ w', Kn w0 mk ab apf w' → (w'.cell? ⟨ab, 0, none⟩ = some (.pointer (some ⟨nb, 0, none⟩)) ∧ w'.cell? ⟨ab, 1, none⟩ = some (.slice ac c.length cc) ∧ w'.cell? ⟨nb, 0, none⟩ = some (.slice ad d.length cd) ∧ w'.cell? ⟨nb, 1, none⟩ = some (.slice (some ⟨pb, po, none⟩) ps.length cp) ∧ w'.cell? ⟨nb, 4, none⟩ = some (.slice (some ⟨bb, 0, none⟩) ps.length ps.length) ∧ w'.cell? ⟨bb, i, none⟩ = some (.slice rv (rows.getD i []).length rc) ∧ w'.cell? ⟨pb, po + i * 23 + 5, none⟩ = some (.int .i64 ps[i].cond.op) ∧ w'.cell? ⟨pb, po + i * 23 + 6, none⟩ = some (.string ps[i].cond.name) ∧ w'.cell? ⟨pb, po + i * 23 + 7, none⟩ = some (.int .i64 ps[i].cond.cmp) ∧ w'.cell? ⟨pb, po + i * 23 + 8, none⟩ = some (.int .i64 ps[i].cond.n) ∧ w'.cell? ⟨pb, po + i * 23 + 9, none⟩ = some (.slice ak ps[i].cond.kids.length ck)) := by
  obtain ⟨pb, po, rfl, hpb, ak, ck, ae, ce, hr, hf, _⟩ := SlIn.at e.prv i hi
  obtain ⟨v, hv, hvi⟩ := e.rw_ i hi
  obtain ⟨rv, rc, rfl, _⟩ := SlIn.shape hvi
  rw [List.length_map] at hv hvi
  refine ⟨pb, po, ak, ck, rv, rc, rfl, hvi, hf, fun w' h => ?_⟩
  have hB := e.hB
  have n1 := e.nlt
  have n2 := e.blt
  have hcA : ∀ j, w'.cell? ⟨ab, j, none⟩ = w0.cell? ⟨ab, j, none⟩ := fun j => World.cell?_of_block (a := ⟨ab, j, none⟩) h.ask
  have hcB : ∀ b j, b < mk → w'.cell? ⟨b, j, none⟩ = w0.cell? ⟨b, j, none⟩ := fun b j hb => h.bel.cell (p := ⟨b, j, none⟩) hb
  refine ⟨(hcA 0).trans e.a0, (hcA 1).trans e.a1, (hcB nb 0 n1).trans e.n0, (hcB nb 1 n1).trans e.n1, (hcB nb 4 n1).trans e.n4, (hcB bb i n2).trans hv, (hcB pb _ (by omega)).trans (hr 5 _ rfl), (hcB pb _ (by omega)).trans (hr 6 _ rfl), (hcB pb _ (by omega)).trans (hr 7 _ rfl), (hcB pb _ (by omega)).trans (hr 8 _ rfl), (hcB pb _ (by omega)).trans (hr 9 _ rfl)⟩

theorem Kn.put {w0 W W' : World} {mk ab : Nat} {ap : Nat → Bool} (h : Kn w0 mk ab ap W) (hm : mk < ab) {l : List (Int × Bool)} (hl : ∀ (k : Nat) (b : Bool), l.lookup (k : Int) = some b → b = ap k) (i : Nat) (b : Bool) (hb : b = ap i) (hmap : MapIs (Value.int .i64) Value.bool W' mk (ins l (i : Int) b)) (hu : Upd mk W W') : Kn w0 mk ab ap W' := by
  refine ⟨⟨hu.os.trans h.gr.os, hu.tape.trans h.gr.tape, hu.output.trans h.gr.output, by rw [hu.size]; exact h.gr.size, fun k hk hne => (hu.block k (fun e => hne (by rw [e]))).trans (h.gr.block k hk hne)⟩, h.bel.trans (hu.below (Nat.le_refl _)), (hu.block ab (by omega)).trans h.ask, _, hmap, fun k b' hk => ?_⟩
  by_cases e : k = i
  · subst e; rw [lookup_ins_same] at hk; cases hk; exact hb
  · rw [lookup_ins_other _ _ (by omega)] at hk; exact hl k b' hk

theorem AEnv.move {w0 W : World} {B ab nb bb mk : Nat} {d : List Fa} {ps : List Pv} {c : List Int} {rows : List (List Nat)} {ad : Option Addr} {cd : Nat} {ap : Option Addr} {cp : Nat} {ac : Option Addr} {cc : Nat} (e : AEnv w0 B ab nb bb mk d ps c rows ad cd ap cp ac cc) {apf : Nat → Bool} (h : Kn w0 mk ab apf W) :
    AEnv W B ab nb bb mk d ps c rows ad cd ap cp ac cc := by
  have hcA : ∀ j, W.cell? ⟨ab, j, none⟩ = w0.cell? ⟨ab, j, none⟩ := fun j => World.cell?_of_block (a := ⟨ab, j, none⟩) h.ask
  have hcB : ∀ b j, b < mk → W.cell? ⟨b, j, none⟩ = w0.cell? ⟨b, j, none⟩ := fun b j hb => h.bel.cell (p := ⟨b, j, none⟩) hb
  have hb := h.bel.mono e.hB
  refine ⟨e.hB, e.mlt, Nat.lt_of_lt_of_le e.alt h.bel.size, e.nlt, e.blt, (hcA 0).trans e.a0, (hcA 1).trans e.a1, (hcA 2).trans e.a2, (hcB nb 0 e.nlt).trans e.n0, (hcB nb 1 e.nlt).trans e.n1, (hcB nb 4 e.nlt).trans e.n4, fun k hk => ?_, e.dom.below hb, e.prv.below PvR.kept hb, e.cas.below hb, e.rlt⟩
  obtain ⟨v, h1, h2⟩ := e.rw_ k hk
  exact ⟨v, (hcB bb k e.blt).trans h1, h2.below h.bel⟩

end Go.Proofs.YtihpoecdnchioaaGreatDoor
