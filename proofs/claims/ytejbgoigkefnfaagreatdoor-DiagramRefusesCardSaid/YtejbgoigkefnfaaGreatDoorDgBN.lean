/- The walk of diagram.Build. A bound on the formula's cells. -/
import Derived.Test.YtejbgoigkefnfaaGreatDoorDgST
import Derived.Test.YtejbgoigkefnfaaGreatDoorDgBP
import Derived.Test.YtejbgoigkefnfaaGreatDoorHoldsA
namespace Go.Proofs.YtejbgoigkefnfaaGreatDoor
open Go.RowKit
open Go.Sort (grow)

/-- what Build's recursion does with fuel f -/
def GrowW (w0 : World) (K DB : Nat) (d : List Fa) (f0 : Fo) (f : Nat) : Prop :=
  ∀ (S : List Nat) (m : List Dn) (dn : List (ByteArray × Nat)) (i : Nat) (s : Fo) (v : Value) (W : World), (∀ b ∈ S, b < W.heap.size) → InvG d.length (flo d) (fhi d) (fun s c => valC d c s) keyD (ResF d f0) m dn → ResF d f0 i s → d.length - i < f → s.size ≤ 9000 → StB w0 K S m dn W → s.InP W (Fix W K S) v →
    Calls Tryz.prog 39 #[v, .int .i64 i, .pointer (some ⟨K + 1, 0, none⟩), .pointer (some ⟨K + 4, 0, none⟩), .pointer (some ⟨DB, 0, none⟩), .pointer (some ⟨K + 3, 0, none⟩), .pointer (some ⟨K + 5, 0, none⟩)] W fun e W' => e = .returned (.int .i64 (growF d f m dn i s).2) ∧ StB w0 K S (growF d f m dn i s).1.1 (growF d f m dn i s).1.2 W' ∧ MkS K [] W W'

/-- one value more, in a row of the call's own -/
theorem own_step {W : World} {base : Nat} {v : Value} {xs : List Int} (h : W.ownsRow base 3 1 v xs.length (xs.map iW)) {ops : Array Oper} {o : Oper} {a : Act} {K : Act → World → Prop} {Q : Exit → Act → World → Prop} {E : Prop}
    (hgd : o.guard = none) (s x : Operand) (ho : o.op = .call { callee := .builtin .append, args := #[s, x], argTypes := #[28, 28] }) (hs : a.eval s = v) (ad : Addr) (hx : a.eval x = .slice (some ad) 1 1) (hB : base ≤ W.heap.size) (hl : xs.length ≤ 2000000) (n : Int) (hc : W.cell? ad = some (.int .i64 n))
    (hK : ∀ g cap w', w'.ownsRow base 3 1 (.slice (some ⟨g, 0, none⟩) (xs.length + 1) cap) (xs ++ [n]).length ((xs ++ [n]).map iW) → W.grownBy w' v.ownBlock → (v.ownBlock = some g ∨ g = W.heap.size) → K (a.put o.dst (.slice (some ⟨g, 0, none⟩) (xs.length + 1) cap)) w') :
    if Region.wanted o (yielded ops a.tmps) = true then Oper.wp Tryz.prog o a W K Q else E := by
  obtain ⟨g, cap, w', r1, r2, r3, r4, _⟩ := run_appI (.inl ⟨h, rfl⟩) hB hl ad n hc o.type
  exact step_run hgd s x _ ho _ _ hs hx _ _ r1 (hK g cap w' r2 r3 r4)

/-- where the loop over the values stands -/
structure LoS (w0 : World) (K : Nat) (S : List Nat) (w6 : World) (r : (List Dn × List (ByteArray × Nat)) × List Int) (kv : Value) (wr : World) : Prop where
  st : StB w0 K (ownL kv ++ S) r.1.1 r.1.2 wr
  mks : MkS K [] w6 wr
  own : wr.ownsRow w6.heap.size 3 1 kv r.2.length (r.2.map iW)

variable {w0 w6 wr w8 w10 : World} {K : Nat} {S : List Nat} {r : (List Dn × List (ByteArray × Nat)) × List Int} {r' : List Dn × List (ByteArray × Nat)} {kv v' : Value}
theorem LoS.own9 (h : LoS w0 K S w6 r kv wr) (h8 : StB w0 K (ownL kv ++ S) r'.1 r'.2 w8 ∧ MkS K [] wr w8) (o : Obj) : (w8.alloc o).ownsRow w6.heap.size 3 1 kv r.2.length (r.2.map iW) :=
  own_mks h.own (h8.2.alloc o) ⟨by decide, by decide⟩ (by simp)
theorem LoS.app (h : LoS w0 K S w6 r kv wr) (hK : K + 6 ≤ w0.heap.size) (hw : w0.heap.size ≤ w6.heap.size) (h8 : StB w0 K (ownL kv ++ S) r'.1 r'.2 w8 ∧ MkS K [] wr w8) {o : Obj} (hg : (w8.alloc o).grownBy w10 kv.ownBlock) {g : Nat} (hv : v'.ownBlock = some g) (hat : kv.ownBlock = some g ∨ g = (w8.alloc o).heap.size)
    {k : Int} (h10 : w10.ownsRow w6.heap.size 3 1 v' (r.2 ++ [k]).length ((r.2 ++ [k]).map iW)) : LoS w0 K S w6 (r', r.2 ++ [k]) v' w10 := by
  obtain ⟨q1, q2⟩ := (h8.1.below ((Below.refl _ _).alloc (Nat.le_refl _) o)).app hK (h.own9 h8 o) hw hg hv hat
  refine ⟨q1, ?_, h10⟩
  refine (((h.mks.trans (h8.2.alloc o)).more (S' := ownL kv) (by simp)).trans q2).less fun b hb hlt => ?_
  have e : kv.ownBlock = some b := by unfold ownL at hb; simpa using hb
  have := (own_at h.own b e).1
  omega

set_option maxRecDepth 100000 in
set_option maxHeartbeats 4000000 in
theorem grow_new {w0 : World} {K DB : Nat} {S : List Nat} {d : List Fa} {fv : Value} (hE : EnvB w0 K DB d fv) (hd : DomOk d) {f0 : Fo} (hcap : ∀ m dn, InvG d.length (flo d) (fhi d) (fun s c => valC d c s) keyD (ResF d f0) m dn → m.length ≤ 20000) (f : Nat) (IH : GrowW w0 K DB d f0 f)
    (m : List Dn) (dn : List (ByteArray × Nat)) (i : Nat) (s : Fo) (v : Value) (W : World) (hSb : ∀ b ∈ S, b < W.heap.size) (hI : InvG d.length (flo d) (fhi d) (fun s c => valC d c s) keyD (ResF d f0) m dn) (hR : ResF d f0 i s) (hfu : d.length - i < f + 1) (hz : s.size ≤ 9000) (hS : StB w0 K S m dn W) (hf : s.InP W (Fix W K S) v)
    (hc : conF s = none) (hi : i < d.length) (hk : dn.lookup (keyD i s) = none) :
    Calls Tryz.prog 39 #[v, .int .i64 i, .pointer (some ⟨K + 1, 0, none⟩), .pointer (some ⟨K + 4, 0, none⟩), .pointer (some ⟨DB, 0, none⟩), .pointer (some ⟨K + 3, 0, none⟩), .pointer (some ⟨K + 5, 0, none⟩)] W fun e W' => e = .returned (.int .i64 (growF d (f + 1) m dn i s).2) ∧ StB w0 K S (growF d (f + 1) m dn i s).1.1 (growF d (f + 1) m dn i s).1.2 W' ∧ MkS K [] W W' := by
  obtain ⟨ao, cap, hv, _⟩ := hf.shape
  subst hv
  have hw := hR.wf
  have hml := hcap _ _ hI
  have hdl := hd.len
  have hln : (spellT s).length ≤ 1000000 := by have := spell_len d s.size s (Nat.le_refl _) hw; omega
  have hgr := grow_new_eq (d := d) f hc hml hi hk
  have hfo := fold_ok hd hcap (f := f) hI hR hi (by omega)
  have hlr : ∀ x ∈ stD d i s, 0 ≤ x ∧ x ≤ 1000000 := fun x hx => st_range hd hi hx
  have hll := st_len (d := d) i s
  have hlp : 0 < (stD d i s).length := by have := st_pos hd s hi; unfold stN at this; exact this
  obtain ⟨L, hL⟩ : ∃ L, stD d i s = L := ⟨_, rfl⟩
  rw [hL] at hgr hfo hlr hll hlp
  have HRG := Lib.hid (fun (x : Int) (hx : x ∈ L) => res_giv hd hR hi (v := x) (by rw [hL]; exact hx))
  have HGZ := Lib.hid (fun (x : Int) => (giv_size d (fnm d i) x s.size s (Nat.le_refl _) hR.wf))
  have HGR := Lib.hid hgr
  have HFO := Lib.hid hfo
  have HLR := Lib.hid hlr
  have hll2 : L.length ≤ 20000 := by omega
  clear hgr hfo hlr hll
  have hsz := hS.size
  have hsK := hE.size
  have hS1 := hS.below ((Below.refl _ _).alloc (Nat.le_refl _) (.cells #[.int .i64 s.op, .string s.name, .int .i64 s.cmp, .int .i64 s.n, .slice ao s.kids.length cap] 24))
  obtain ⟨n1, n2⟩ := con_op.1 hc
  have e1 : (s.op == 1) = false := by simpa using n1
  have e2 : (s.op == 2) = false := by simpa using n2
  have hmv := (hS1.blk hE.mv ⟨by decide, by decide⟩).cell 0
  have hfbB := hS1.blk hE.fb ⟨by decide, by decide⟩
  have hfb := hfbB.cell 0
  have hfz := hfbB.frozen 0
  obtain ⟨ad, cd, hfv, _⟩ := SlIn.shape hE.dom
  have hdom := hE.dom
  rw [hfv] at hdom
  obtain ⟨db, df, rfl, hdbK, f0', f1', f2', f3', _⟩ := hdom.at i hi
  have hdb := (hS1.blk hE.db ⟨by decide, by decide⟩).cell 0
  have hdb0 := hE.db.cell 0
  rw [hfv] at hdb hdb0
  have efn : fnm d i = d[i].name := by unfold fnm; rw [getD_dg _ _ _ hi]
  have eL : startsD d[i].name d[i].lo d[i].hi s = L := by rw [← hL]; unfold stD flo fhi; rw [efn, getD_dg _ _ _ hi]
  have eG : ∀ x, givF d[i].name x s = givD d i s x := fun x => by unfold givD; rw [efn]
  generalize d[i] = fa at *
  obtain ⟨_, ⟨mv, mo, xs, g1, g2, g3, _⟩, _⟩ := hS1.is
  obtain ⟨ma, mc, hmvs⟩ := own_len g2
  have hxl : xs.length = m.length := by rw [← g3, List.length_map]
  subst hmvs
  have hmk := g1.cell 0
  rw [hxl] at hmk
  have hine : ((i : Int) == (d.length : Int)) = false := by simp; omega
  have hKb := hE.lt
  have hdd : decide ((20000 : Int) < (m.length : Int)) = false := by simp; omega
  have hsame := set_same hfbB
  have HSAME := Lib.hid hsame
  have hin : s.In ((W.alloc (.cells #[.int .i64 s.op, .string s.name, .int .i64 s.cmp, .int .i64 s.n, .slice ao s.kids.length cap] 24)).alloc (.cells #[.pointer none, .slice none 0 0] 76)) (W.alloc (.cells #[.int .i64 s.op, .string s.name, .int .i64 s.cmp, .int .i64 s.n, .slice ao s.kids.length cap] 24)).heap.size (.agg #[.int .i64 s.op, .string s.name, .int .i64 s.cmp, .int .i64 s.n, .slice ao s.kids.length cap]) := Fo.In.mono (by simp) s _ (Fo.In.below (((Below.refl W.heap.size W).alloc (Nat.le_refl _) _).alloc (by simp) _) s _ (Fo.InP.back (B := W.heap.size) (fun b h => h.1) _ _ hf))
  have hsp := (spell_any d (W.alloc (.cells #[.int .i64 s.op, .string s.name, .int .i64 s.cmp, .int .i64 s.n, .slice ao s.kids.length cap] 24)).heap.size (W.alloc (.cells #[.int .i64 s.op, .string s.name, .int .i64 s.cmp, .int .i64 s.n, .slice ao s.kids.length cap] 24)).heap.size s.size s (Nat.le_refl _) hw (.agg #[.int .i64 s.op, .string s.name, .int .i64 s.cmp, .int .i64 s.n, .slice ao s.kids.length cap]) [] ((W.alloc (.cells #[.int .i64 s.op, .string s.name, .int .i64 s.cmp, .int .i64 s.n, .slice ao s.kids.length cap] 24)).alloc (.cells #[.pointer none, .slice none 0 0] 76)) hin (bld_new _) (fun w' hb => hE.tab w' ((hS1.stp.below (by omega)).trans (((Below.refl _ _).alloc (by simp; omega) _).trans (hb.mono (by simp; omega))))) (by simp) (by simp; omega))
  rw [World.size_alloc] at hsp
  have HSP := Lib.hid hsp
  have HS1 := Lib.hid hS1
  have HE := Lib.hid hE
  have x0 := ((Blk.new W 24 #[.int .i64 s.op, .string s.name, .int .i64 s.cmp, .int .i64 s.n, .slice ao s.kids.length cap]).alloc (.cells #[.pointer none, .slice none 0 0] 76)).cell 0
  have x1 := ((Blk.new W 24 #[.int .i64 s.op, .string s.name, .int .i64 s.cmp, .int .i64 s.n, .slice ao s.kids.length cap]).alloc (.cells #[.pointer none, .slice none 0 0] 76)).cell 1
  have x2 := ((Blk.new W 24 #[.int .i64 s.op, .string s.name, .int .i64 s.cmp, .int .i64 s.n, .slice ao s.kids.length cap]).alloc (.cells #[.pointer none, .slice none 0 0] 76)).cell 2
  have x3 := ((Blk.new W 24 #[.int .i64 s.op, .string s.name, .int .i64 s.cmp, .int .i64 s.n, .slice ao s.kids.length cap]).alloc (.cells #[.pointer none, .slice none 0 0] 76)).cell 3
  have x4 := ((Blk.new W 24 #[.int .i64 s.op, .string s.name, .int .i64 s.cmp, .int .i64 s.n, .slice ao s.kids.length cap]).alloc (.cells #[.pointer none, .slice none 0 0] 76)).cell 4
  have hKW : K + 6 ≤ W.heap.size := by omega
  have HF := Lib.hid hf
  have HWF := Lib.hid hw
  obtain ⟨GG, hGG⟩ : ∃ GG, growF d (f + 1) m dn i s = GG := ⟨_, rfl⟩
  rw [hGG]
  have HGG := Lib.hid (hGG.symm.trans HGR.out)
  clear hGG HGR
  have HST : Hid (∀ w', Hid (MkS K [] (W.alloc (.cells #[.int .i64 s.op, .string s.name, .int .i64 s.cmp, .int .i64 s.n, .slice ao s.kids.length cap] 24)) w') → Calls Tryz.prog 44 #[.agg #[.int .i64 s.op, .string s.name, .int .i64 s.cmp, .int .i64 s.n, .slice ao s.kids.length cap], .agg #[.string fa.name, .int .i64 fa.kind, .int .i64 fa.lo, .int .i64 fa.hi]] w' fun e w'' => ∃ (g lc : Nat), e = .returned (.slice (some ⟨g, 0, none⟩) L.length lc) ∧
      Hid (w''.ownsRow w'.heap.size 3 1 (.slice (some ⟨g, 0, none⟩) L.length lc) L.length (L.map iW)) ∧ Hid (Below w'.heap.size w' w'') ∧ Hid (MkS K [] (W.alloc (.cells #[.int .i64 s.op, .string s.name, .int .i64 s.cmp, .int .i64 s.n, .slice ao s.kids.length cap] 24)) w'')) := by
    intro w' hm
    have h1 := foFix hf ((MkS.of_below (S := S) ((Below.refl W.heap.size W).alloc (Nat.le_refl _) (.cells #[.int .i64 s.op, .string s.name, .int .i64 s.cmp, .int .i64 s.n, .slice ao s.kids.length cap] 24)) (Nat.le_refl _)).trans (hm.out.more (by simp)))
    have q := starts_any d fa s hw (by omega) _ w' (Fo.InP.back (fun b h => h.1) _ _ h1)
    rw [eL] at q
    refine q.mono ?_
    rintro e w'' ⟨u, rfl, ho, hb⟩
    obtain ⟨g, lc, rfl, _, _⟩ := ho.form hlp
    exact ⟨g, lc, rfl, ho, hb, hm.out.trans (MkS.of_below hb (Nat.le_refl _))⟩
  have HCL : Hid (∀ w', MkS K [] (W.alloc (.cells #[.int .i64 s.op, .string s.name, .int .i64 s.cmp, .int .i64 s.n, .slice ao s.kids.length cap] 24)) w' → (w'.cell? ⟨W.heap.size, 0, none⟩ = some (.int .i64 s.op) ∧ w'.cell? ⟨W.heap.size, 1, none⟩ = some (.string s.name) ∧ w'.cell? ⟨W.heap.size, 2, none⟩ = some (.int .i64 s.cmp) ∧ w'.cell? ⟨W.heap.size, 3, none⟩ = some (.int .i64 s.n) ∧ w'.cell? ⟨W.heap.size, 4, none⟩ = some (.slice ao s.kids.length cap) ∧ w'.cell? ⟨DB, 0, none⟩ = some (.slice (some ⟨db, df, none⟩) d.length cd) ∧ w'.cell? ⟨db, df + i * 4, none⟩ = some (.string fa.name) ∧ w'.cell? ⟨db, df + i * 4 + 1, none⟩ = some (.int .i64 fa.kind) ∧ w'.cell? ⟨db, df + i * 4 + 2, none⟩ = some (.int .i64 fa.lo) ∧ w'.cell? ⟨db, df + i * 4 + 3, none⟩ = some (.int .i64 fa.hi) ∧ w'.cell? ⟨K + 5, 0, none⟩ = some (.func (.func 39) #[] #[.pointer (some ⟨K + 1, 0, none⟩), .pointer (some ⟨K + 4, 0, none⟩), .pointer (some ⟨DB, 0, none⟩), .pointer (some ⟨K + 3, 0, none⟩), .pointer (some ⟨K + 5, 0, none⟩)]))) := by
    intro w' hm
    have hb0 := (hS1.stp.trans hm).below (by omega : K ≤ w0.heap.size)
    have q : ∀ {b : Nat} {t : TypeId} {cs : Array Value}, Blk (W.alloc (.cells #[.int .i64 s.op, .string s.name, .int .i64 s.cmp, .int .i64 s.n, .slice ao s.kids.length cap] 24)) b t cs → (t == 56) = false ∧ (t == 70) = false → Blk w' b t cs := fun h ht => hm.keep _ _ h (.inr ⟨by simp [solid, ht.1, ht.2], by simp⟩)
    have y := q (Blk.new W 24 #[.int .i64 s.op, .string s.name, .int .i64 s.cmp, .int .i64 s.n, .slice ao s.kids.length cap]) ⟨by decide, by decide⟩
    have z := q (hS1.blk hE.gv ⟨by decide, by decide⟩) ⟨by decide, by decide⟩
    exact ⟨y.cell 0, y.cell 1, y.cell 2, y.cell 3, y.cell 4, (hb0.cell (p := ⟨DB, 0, none⟩) hKb).trans hdb0, (hb0.cell (p := ⟨db, _, none⟩) hdbK).trans f0', (hb0.cell (p := ⟨db, _, none⟩) hdbK).trans f1', (hb0.cell (p := ⟨db, _, none⟩) hdbK).trans f2', (hb0.cell (p := ⟨db, _, none⟩) hdbK).trans f3', z.cell 0⟩
  have HKP : Hid (∀ w', Hid (MkS K [] (W.alloc (.cells #[.int .i64 s.op, .string s.name, .int .i64 s.cmp, .int .i64 s.n, .slice ao s.kids.length cap] 24)) w') → (w'.cell? ⟨W.heap.size, 0, none⟩ = some (.int .i64 s.op) ∧ w'.cell? ⟨W.heap.size, 1, none⟩ = some (.string s.name) ∧ w'.cell? ⟨W.heap.size, 2, none⟩ = some (.int .i64 s.cmp) ∧ w'.cell? ⟨W.heap.size, 3, none⟩ = some (.int .i64 s.n) ∧ w'.cell? ⟨W.heap.size, 4, none⟩ = some (.slice ao s.kids.length cap) ∧ w'.cell? ⟨DB, 0, none⟩ = some (.slice (some ⟨db, df, none⟩) d.length cd) ∧ w'.cell? ⟨db, df + i * 4, none⟩ = some (.string fa.name) ∧ w'.cell? ⟨db, df + i * 4 + 1, none⟩ = some (.int .i64 fa.kind) ∧ w'.cell? ⟨db, df + i * 4 + 2, none⟩ = some (.int .i64 fa.lo) ∧ w'.cell? ⟨db, df + i * 4 + 3, none⟩ = some (.int .i64 fa.hi) ∧ w'.cell? ⟨K + 5, 0, none⟩ = some (.func (.func 39) #[] #[.pointer (some ⟨K + 1, 0, none⟩), .pointer (some ⟨K + 4, 0, none⟩), .pointer (some ⟨DB, 0, none⟩), .pointer (some ⟨K + 3, 0, none⟩), .pointer (some ⟨K + 5, 0, none⟩)])) ∧ Hid (MkS K [] (W.alloc (.cells #[.int .i64 s.op, .string s.name, .int .i64 s.cmp, .int .i64 s.n, .slice ao s.kids.length cap] 24)) w')) := fun w' h => ⟨HCL.out w' h.out, h⟩
  have HHI := Lib.hid hI
  have HHR := Lib.hid hR
  have HHD := Lib.hid hd
  have HCAP := Lib.hid hcap
  have HIH := Lib.hid IH
  clear hsp hS hf hS1 hE hc n1 n2 hfbB g1 g2 g3 hsame hin hfv hxl hdom f0' f1' f2' f3' hdb0 hI hR hcap IH
  go_enter Tryz.func39, Tryz.ntmps39
  go_upto_region 4 with (fail)
  try simp only [hdd]
  rw [HSAME.out]
  go_upto_region 7 with (fail)
  clear hmv hfb hfz hdb hmk
  go_upto_region 8 with (go_at_call 41; refine HSP.out.mono ?_; rintro e w3 ⟨rfl, h1, h2, h3⟩; have H3 := Lib.hid h1; have HB3 := Lib.hid h2; clear h1 h2 h3)
  have hB1 : Below (W.alloc (.cells #[.int .i64 s.op, .string s.name, .int .i64 s.cmp, .int .i64 s.n, .slice ao s.kids.length cap] 24)).heap.size (W.alloc (.cells #[.int .i64 s.op, .string s.name, .int .i64 s.cmp, .int .i64 s.n, .slice ao s.kids.length cap] 24)) w3 := ((Below.refl _ _).alloc (Nat.le_refl _) _).trans (by rw [World.size_alloc]; exact HB3.out)
  have HS3 := Lib.hid (HS1.out.below hB1)
  have hs3 : W.heap.size + 2 ≤ w3.heap.size := by have := HB3.out.size; simpa using this
  have HIT : Hid (Calls Tryz.prog 42 #[.int .i64 (i : Int)] w3 fun e w' => ∃ sI : ByteArray, e = .returned (.string sI) ∧ sI.size ≤ 21 ∧ Hid (sI = ⟨(Lib.itoa (i : Int)).toArray⟩) ∧ Hid (Below w3.heap.size w3 w')) := by
    refine (Tryz.strconv_Itoa (i : Int) (by omega) (by omega) w3 ((HE.out.tab.on (HS3.out.stp.below (by omega))).here)).mono ?_
    rintro e w' ⟨rfl, nq, os, rfl⟩
    refine ⟨_, rfl, ?_, rfl, grow_below w3 nq os⟩
    have := Lib.itoa_length_le (i : Int) (by omega) (by omega)
    simpa [ByteArray.size] using this
  have HSTR : Hid (∀ w4, Below w3.heap.size w3 w4 → Calls Tryz.prog 43 #[.pointer (some ⟨W.heap.size + 1, 0, none⟩)] w4 fun e w' => ∃ sT : ByteArray, e = .returned (.string sT) ∧ sT.size ≤ 1000000 ∧ Hid (sT = ⟨(spellT s).toArray⟩) ∧ Hid (Below (W.heap.size + 1) w4 w')) := fun w4 hb => by
    have hbl := bld_below H3.out hb
    rw [List.nil_append] at hbl
    have q := Tryz.Builder_String_any_k (W.heap.size + 1) (W.heap.size + 1) (spellT s) w4 hbl (by have := hb.size; omega)
    refine q.mono ?_
    rintro e w' ⟨rfl, _, h2, _⟩
    exact ⟨_, rfl, by simpa [ByteArray.size] using hln, rfl, h2⟩
  clear HSP HSAME hln
  go_upto_region 9 with (first | (go_at_call 42; refine HIT.out.mono ?_; rintro e w4 ⟨sI, rfl, hsI, HsI, HB4⟩) | (go_at_call 43; refine (HSTR.out _ HB4.out).mono ?_; rintro e w5 ⟨sT, rfl, hsT, HsT, HB5⟩))
  have hb5 : Below (W.alloc (.cells #[.int .i64 s.op, .string s.name, .int .i64 s.cmp, .int .i64 s.n, .slice ao s.kids.length cap] 24)).heap.size (W.alloc (.cells #[.int .i64 s.op, .string s.name, .int .i64 s.cmp, .int .i64 s.n, .slice ao s.kids.length cap] 24)) w5 := (hB1.trans (HB4.out.mono (by rw [World.size_alloc]; omega))).trans (by rw [World.size_alloc]; exact HB5.out)
  have HM5 : Hid (MkS K [] (W.alloc (.cells #[.int .i64 s.op, .string s.name, .int .i64 s.cmp, .int .i64 s.n, .slice ao s.kids.length cap] 24)) w5) := MkS.of_below hb5 (Nat.le_refl _)
  have hS5 := HS1.out.below hb5
  have hdv := (hS5.blk HE.out.dv ⟨by decide, by decide⟩).cell 0
  obtain ⟨mp, hm, hmp⟩ := hS5.memo
  have hlk := run_look_ok MapSI.key Tryz.underlying66 zero_int3 hm (sI ++ sT)
  have HKEY : Hid (sI ++ sT = keyD i s) := by show _ = _; rw [HsI.out, HsT.out, ByteArray.mk_append_mk]; rfl
  have hv : mp.lookup (sI ++ sT) = none := by rw [hmp, HKEY.out, hk]; rfl
  rw [hv] at hlk
  have HS5 := Lib.hid hS5
  have hs5 : W.heap.size + 1 ≤ w5.heap.size := by have := hb5.size; simpa using this
  have hKT : (sI ++ sT).size ≤ 2000000 := by rw [ByteArray.size_append]; omega
  clear hS5 hm hmp hv hb5 hB1 HSTR HIT x0 x1 x2 x3 x4 HsI HsT H3 HB3 HS3
  go_upto_region 12 with (fail)
  have HM5d : Hid (MkS K [] (W.alloc (.cells #[.int .i64 s.op, .string s.name, .int .i64 s.cmp, .int .i64 s.n, .slice ao s.kids.length cap] 24)) w5.drew) := HM5.out.trans (MkS.of_below ((Below.refl w5.heap.size w5).drew) (Nat.le_refl _))
  go_region_held3 (fun w' => (w'.cell? ⟨W.heap.size, 0, none⟩ = some (.int .i64 s.op) ∧ w'.cell? ⟨W.heap.size, 1, none⟩ = some (.string s.name) ∧ w'.cell? ⟨W.heap.size, 2, none⟩ = some (.int .i64 s.cmp) ∧ w'.cell? ⟨W.heap.size, 3, none⟩ = some (.int .i64 s.n) ∧ w'.cell? ⟨W.heap.size, 4, none⟩ = some (.slice ao s.kids.length cap) ∧ w'.cell? ⟨DB, 0, none⟩ = some (.slice (some ⟨db, df, none⟩) d.length cd) ∧ w'.cell? ⟨db, df + i * 4, none⟩ = some (.string fa.name) ∧ w'.cell? ⟨db, df + i * 4 + 1, none⟩ = some (.int .i64 fa.kind) ∧ w'.cell? ⟨db, df + i * 4 + 2, none⟩ = some (.int .i64 fa.lo) ∧ w'.cell? ⟨db, df + i * 4 + 3, none⟩ = some (.int .i64 fa.hi) ∧ w'.cell? ⟨K + 5, 0, none⟩ = some (.func (.func 39) #[] #[.pointer (some ⟨K + 1, 0, none⟩), .pointer (some ⟨K + 4, 0, none⟩), .pointer (some ⟨DB, 0, none⟩), .pointer (some ⟨K + 3, 0, none⟩), .pointer (some ⟨K + 5, 0, none⟩)])) ∧ Hid (MkS K [] (W.alloc (.cells #[.int .i64 s.op, .string s.name, .int .i64 s.cmp, .int .i64 s.n, .slice ao s.kids.length cap] 24)) w'))
    (exact HKP.out _ (by assumption))
    ((go_at_call 44; refine (HST.out _ (by assumption)).mono ?_; rintro e w6 ⟨g6, c6, rfl, HO6, HB6, HM6⟩))
  go_split_ands
  go_upto_region 15 with (fail)
  have hs6 : w5.heap.size ≤ w6.heap.size := HB6.out.size
  have HS6 : Hid (StB w0 K S m dn w6) := HS5.out.below (((Below.refl w5.heap.size w5).drew).trans HB6.out)
  have HL0 : Hid (LoS w0 K S w6 ((m, dn), []) (.slice none 0 0) w6) := ⟨HS6.out, MkS.refl _ _ _, rfl, .inl ⟨rfl, rfl⟩⟩
  have hlp2 : L.length ≤ 9223372036854775807 := by omega
  go_loopw [15, 77] (fun kv iv wr => ∃ (j : Nat) (r : (List Dn × List (ByteArray × Nat)) × List Int), j ≤ L.length ∧ iv = .int .i64 j ∧ Hid (r = foldG d f m dn i s (L.take j)) ∧ Hid (LoS w0 K S w6 r kv wr)) (fun _ iv _ => L.length - (intOf iv).toNat)
  case atStart => exact ⟨0, ((m, dn), []), by omega, rfl, rfl, HL0⟩
  case round =>
    obtain ⟨j, r, hj, rfl, hr, hLo⟩ := hrel
    obtain ⟨ak, ck, hkv⟩ := own_len hLo.out.own
    subst hkv
    have hFj := HFO.out j hj
    rw [← hr.out] at hFj
    have HRL := Lib.hid hFj.len
    have hrb : r.2.length ≤ 2000000 := by have := hFj.len; omega
    have hmr : MkS K [] (W.alloc (.cells #[.int .i64 s.op, .string s.name, .int .i64 s.cmp, .int .i64 s.n, .slice ao s.kids.length cap] 24)) wr := HM6.out.trans hLo.out.mks
    have hsr := hLo.out.mks.size
    clear HL0 HS6
    by_cases hlt : j < L.length
    · have hcl : wr.cell? ⟨g6, j, none⟩ = some (.int .i64 L[j]) := by
        have q := (own_mks HO6.out hLo.out.mks ⟨by decide, by decide⟩ (by simp)).cellAt j (by omega)
        rw [List.getElem?_map, List.getElem?_eq_getElem hlt] at q
        exact q
      have hx := HLR.out L[j] (List.getElem_mem _)
      have hrg := HRG.out L[j] (List.getElem_mem _)
      have hsnoc := foldG_snoc (d := d) f m dn i s L j hlt
      rw [← hr.out] at hsnoc
      generalize L[j] = x at *
      have hgz := HGZ.out x
      have hsz9 : (givD d i s x).size ≤ 9000 := Nat.le_trans hgz hz
      have hSb2 : ∀ b ∈ ownL (.slice ak r.2.length ck) ++ S, b < wr.heap.size := fun b hb => by
        rcases List.mem_append.1 hb with hb | hb
        · have e : (Value.slice ak r.2.length ck).ownBlock = some b := by unfold ownL at hb; simpa using hb
          obtain ⟨_, cs, h4⟩ := own_at hLo.out.own b e
          exact heap_lt h4
        · have := hSb b hb; omega
      have hSo : ∀ b ∈ ownL (.slice ak r.2.length ck) ++ S, b ∈ S ∨ W.heap.size ≤ b := fun b hb => by
        rcases List.mem_append.1 hb with hb | hb
        · have e : (Value.slice ak r.2.length ck).ownBlock = some b := by unfold ownL at hb; simpa using hb
          have := (own_at hLo.out.own b e).1
          right; omega
        · exact .inl hb
      have hmd : MkS K [] wr wr.drew := MkS.of_below ((Below.refl wr.heap.size wr).drew) (Nat.le_refl _)
      have HMR : Hid (MkS K [] (W.alloc (.cells #[.int .i64 s.op, .string s.name, .int .i64 s.cmp, .int .i64 s.n, .slice ao s.kids.length cap] 24)) wr.drew) := hmr.trans hmd
      have HGIV : Hid (Calls Tryz.prog 45 #[.agg #[.int .i64 s.op, .string s.name, .int .i64 s.cmp, .int .i64 s.n, .slice ao s.kids.length cap], .string fa.name, .int .i64 x] wr.drew fun e w'' => ∃ u, e = .returned u ∧ Hid ((givD d i s x).InP w'' (Fix w'' K (ownL (.slice ak r.2.length ck) ++ S)) u) ∧ Hid (StB w0 K (ownL (.slice ak r.2.length ck) ++ S) r.1.1 r.1.2 w'' ∧ MkS K [] wr w'') ∧ Hid (MkS K [] (W.alloc (.cells #[.int .i64 s.op, .string s.name, .int .i64 s.cmp, .int .i64 s.n, .slice ao s.kids.length cap] 24)) w'')) := by
        have h1 := foFix (foOpen HF.out hSo) ((MkS.of_below ((Below.refl W.heap.size W).alloc (Nat.le_refl _) (.cells #[.int .i64 s.op, .string s.name, .int .i64 s.cmp, .int .i64 s.n, .slice ao s.kids.length cap] 24)) (Nat.le_refl _)).trans (HMR.out.more (by simp)))
        have q := given_any (Fix wr.drew K (ownL (.slice ak r.2.length ck) ++ S)) fa.name x d s.size s (Nat.le_refl _) (by omega) HWF.out _ wr.drew (fun b h => h.1) h1
        rw [eG] at q
        refine q.mono ?_
        rintro e w'' ⟨u, rfl, h2, h3⟩
        have h4 : MkS K [] wr w'' := hmd.trans (MkS.of_below h3 (Nat.le_refl _))
        exact ⟨u, rfl, foNew (W := wr.drew) hSb2 h3 h2, ⟨hLo.out.st.below (((Below.refl wr.heap.size wr).drew).trans h3), h4⟩, hmr.trans h4⟩
      obtain ⟨G, hG⟩ : ∃ G, growF d f r.1.1 r.1.2 (i + 1) (givD d i s x) = G := ⟨_, rfl⟩
      obtain ⟨rr, kn⟩ := G
      have hsn : (rr, r.2 ++ [(kn : Int)]) = foldG d f m dn i s (L.take (j + 1)) := by rw [hsnoc]; unfold stepG; rw [hG]
      have HSN := Lib.hid hsn
      have HGRW : Hid (∀ w7 u, Hid ((givD d i s x).InP w7 (Fix w7 K (ownL (.slice ak r.2.length ck) ++ S)) u) → Hid (StB w0 K (ownL (.slice ak r.2.length ck) ++ S) r.1.1 r.1.2 w7 ∧ MkS K [] wr w7) →
          Calls Tryz.prog 39 #[u, .int .i64 (IntKind.i64.wrap ((i : Int) + 1)), .pointer (some ⟨K + 1, 0, none⟩), .pointer (some ⟨K + 4, 0, none⟩), .pointer (some ⟨DB, 0, none⟩), .pointer (some ⟨K + 3, 0, none⟩), .pointer (some ⟨K + 5, 0, none⟩)] w7 fun e w8 => e = .returned (.int .i64 kn) ∧ Hid (StB w0 K (ownL (.slice ak r.2.length ck) ++ S) rr.1 rr.2 w8 ∧ MkS K [] wr w8) ∧ Hid (MkS K [] (W.alloc (.cells #[.int .i64 s.op, .string s.name, .int .i64 s.cmp, .int .i64 s.n, .slice ao s.kids.length cap] 24)) w8)) := by
        intro w7 u h1 h2
        have q := HIH.out (ownL (.slice ak r.2.length ck) ++ S) r.1.1 r.1.2 (i + 1) (givD d i s x) u w7 (fun b hb => by have := hSb2 b hb; have := h2.out.2.size; omega) hFj.inv hrg (by omega) hsz9 h2.out.1 h1.out
        rw [hG] at q
        rw [Go.IntWalk.i64_in _ (by omega)]
        refine q.mono ?_
        rintro e w8 ⟨rfl, h3, h4⟩
        exact ⟨rfl, ⟨h3, h2.out.2.trans h4⟩, hmr.trans (h2.out.2.trans h4)⟩
      clear hsn hG hsnoc hrg hFj hgz hmr hmd hSb2 hSo hr
      go_upto_region 17 with (fail)
      refine wp_region_held_drew (S := (fun w' : World => Hid (MkS K [] (W.alloc (.cells #[.int .i64 s.op, .string s.name, .int .i64 s.cmp, .int .i64 s.n, .slice ao s.kids.length cap] 24)) w'))) (by kernel_rfl) HMR (fun hHeld => ?_)
      refine wpAnyH_take (i := 0) (oi := { dst := some 81, op := Go.Op.move (Go.Operand.tmp 15), type := 28, pos := "diagram.go:234", after := #[], guard := none }) (v := ?v0) rfl (by kernel_rfl) (by kernel_rfl) (by kernel_rfl) (fun _ _ _ h => h) (Or.inl ⟨by rfl, ?y0⟩) (by assumption) ?_
      case y0 => (intro w9 hSw; obtain ⟨y0, y1, y2, y3, y4, y5, y6, y7, y8, y9, y10⟩ := HCL.out w9 hSw.out; go_simp; try with_reducible rfl)
      try simp only [Act.put, List.setIfInBounds_toArray, List.set_cons_zero, List.set_cons_succ]
      refine wpAnyH_take (i := 1) (oi := { dst := some 82, op := Go.Op.load 71 (Go.Operand.tmp 6), type := 71, pos := "diagram.go:234", after := #[], guard := none }) (v := ?v1) rfl (by kernel_rfl) (by kernel_rfl) (by kernel_rfl) (fun _ _ _ h => h) (Or.inl ⟨by rfl, ?y1⟩) (by assumption) ?_
      case y1 => (intro w9 hSw; obtain ⟨y0, y1, y2, y3, y4, y5, y6, y7, y8, y9, y10⟩ := HCL.out w9 hSw.out; go_simp; try with_reducible rfl)
      try simp only [Act.put, List.setIfInBounds_toArray, List.set_cons_zero, List.set_cons_succ]
      refine wpAnyH_take (i := 2) (oi := { dst := some 83, op := Go.Op.load 24 (Go.Operand.tmp 7), type := 24, pos := "diagram.go:234", after := #[], guard := none }) (v := ?v2) rfl (by kernel_rfl) (by kernel_rfl) (by kernel_rfl) (fun _ _ _ h => h) (Or.inl ⟨by rfl, ?y2⟩) (by assumption) ?_
      case y2 => (intro w9 hSw; obtain ⟨y0, y1, y2, y3, y4, y5, y6, y7, y8, y9, y10⟩ := HCL.out w9 hSw.out; go_simp; try with_reducible rfl)
      try simp only [Act.put, List.setIfInBounds_toArray, List.set_cons_zero, List.set_cons_succ]
      refine wpAnyH_take (i := 3) (oi := { dst := some 84, op := Go.Op.fieldAddr 27 (Go.Operand.tmp 4) 0, type := 0, pos := "diagram.go:234", after := #[], guard := none }) (v := ?v3) rfl (by kernel_rfl) (by kernel_rfl) (by kernel_rfl) (fun _ _ _ h => h) (Or.inl ⟨by rfl, ?y3⟩) (by assumption) ?_
      case y3 => (intro w9 hSw; obtain ⟨y0, y1, y2, y3, y4, y5, y6, y7, y8, y9, y10⟩ := HCL.out w9 hSw.out; go_simp; try with_reducible rfl)
      try simp only [Act.put, List.setIfInBounds_toArray, List.set_cons_zero, List.set_cons_succ]
      refine wpAnyH_take (i := 4) (oi := { dst := some 85, op := Go.Op.load 25 (Go.Operand.tmp 84), type := 25, pos := "diagram.go:234", after := #[{ on := 3, ground := Go.Ground.data }], guard := none }) (v := ?v4) rfl (by kernel_rfl) (by kernel_rfl) (by kernel_rfl) (fun _ _ _ h => h) (Or.inl ⟨by rfl, ?y4⟩) (by assumption) ?_
      case y4 => (intro w9 hSw; obtain ⟨y0, y1, y2, y3, y4, y5, y6, y7, y8, y9, y10⟩ := HCL.out w9 hSw.out; go_simp; try with_reducible rfl)
      try simp only [Act.put, List.setIfInBounds_toArray, List.set_cons_zero, List.set_cons_succ]
      refine wpAnyH_take (i := 5) (oi := { dst := some 86, op := Go.Op.move (Go.Operand.tmp 1), type := 3, pos := "diagram.go:234", after := #[], guard := none }) (v := ?v5) rfl (by kernel_rfl) (by kernel_rfl) (by kernel_rfl) (fun _ _ _ h => h) (Or.inl ⟨by rfl, ?y5⟩) (by assumption) ?_
      case y5 => (intro w9 hSw; obtain ⟨y0, y1, y2, y3, y4, y5, y6, y7, y8, y9, y10⟩ := HCL.out w9 hSw.out; go_simp; try with_reducible rfl)
      try simp only [Act.put, List.setIfInBounds_toArray, List.set_cons_zero, List.set_cons_succ]
      refine wpAnyH_take (i := 6) (oi := { dst := some 87, op := Go.Op.indexAddr 25 (Go.Operand.tmp 85) (Go.Operand.tmp 86), type := 0, pos := "diagram.go:234", after := #[{ on := 4, ground := Go.Ground.data }, { on := 5, ground := Go.Ground.data }], guard := none }) (v := ?v6) rfl (by kernel_rfl) (by kernel_rfl) (by kernel_rfl) (fun _ _ _ h => h) (Or.inl ⟨by rfl, ?y6⟩) (by assumption) ?_
      case y6 => (intro w9 hSw; obtain ⟨y0, y1, y2, y3, y4, y5, y6, y7, y8, y9, y10⟩ := HCL.out w9 hSw.out; go_simp; try with_reducible rfl)
      try simp only [Act.put, List.setIfInBounds_toArray, List.set_cons_zero, List.set_cons_succ]
      refine wpAnyH_take (i := 7) (oi := { dst := some 88, op := Go.Op.fieldAddr 83 (Go.Operand.tmp 87) 0, type := 0, pos := "diagram.go:234", after := #[{ on := 6, ground := Go.Ground.data }], guard := none }) (v := ?v7) rfl (by kernel_rfl) (by kernel_rfl) (by kernel_rfl) (fun _ _ _ h => h) (Or.inl ⟨by rfl, ?y7⟩) (by assumption) ?_
      case y7 => (intro w9 hSw; obtain ⟨y0, y1, y2, y3, y4, y5, y6, y7, y8, y9, y10⟩ := HCL.out w9 hSw.out; go_simp; try with_reducible rfl)
      try simp only [Act.put, List.setIfInBounds_toArray, List.set_cons_zero, List.set_cons_succ]
      refine wpAnyH_take (i := 8) (oi := { dst := some 89, op := Go.Op.load 9 (Go.Operand.tmp 88), type := 9, pos := "diagram.go:234", after := #[{ on := 7, ground := Go.Ground.data }], guard := none }) (v := ?v8) rfl (by kernel_rfl) (by kernel_rfl) (by kernel_rfl) (fun _ _ _ h => h) (Or.inl ⟨by rfl, ?y8⟩) (by assumption) ?_
      case y8 => (intro w9 hSw; obtain ⟨y0, y1, y2, y3, y4, y5, y6, y7, y8, y9, y10⟩ := HCL.out w9 hSw.out; go_simp; try with_reducible rfl)
      try simp only [Act.put, List.setIfInBounds_toArray, List.set_cons_zero, List.set_cons_succ]
      refine wpAnyH_take (i := 9) (oi := { dst := some 90, op := Go.Op.move (Go.Operand.tmp 17), type := 3, pos := "diagram.go:234", after := #[], guard := none }) (v := ?v9) rfl (by kernel_rfl) (by kernel_rfl) (by kernel_rfl) (fun _ _ _ h => h) (Or.inl ⟨by rfl, ?y9⟩) (by assumption) ?_
      case y9 => (intro w9 hSw; obtain ⟨y0, y1, y2, y3, y4, y5, y6, y7, y8, y9, y10⟩ := HCL.out w9 hSw.out; go_simp; try with_reducible rfl)
      try simp only [Act.put, List.setIfInBounds_toArray, List.set_cons_zero, List.set_cons_succ]
      refine wpAnyH_take (i := 11) (oi := { dst := some 92, op := Go.Op.move (Go.Operand.tmp 1), type := 3, pos := "diagram.go:234", after := #[], guard := none }) (v := ?v11) rfl (by kernel_rfl) (by kernel_rfl) (by kernel_rfl) (fun _ _ _ h => h) (Or.inl ⟨by rfl, ?y11⟩) (by assumption) ?_
      case y11 => (intro w9 hSw; obtain ⟨y0, y1, y2, y3, y4, y5, y6, y7, y8, y9, y10⟩ := HCL.out w9 hSw.out; go_simp; try with_reducible rfl)
      try simp only [Act.put, List.setIfInBounds_toArray, List.set_cons_zero, List.set_cons_succ]
      refine wpAnyH_take (i := 12) (oi := { dst := some 93, op := Go.Op.binOp Go.BinOp.add 3 (Go.Operand.tmp 92) (Go.Operand.const (Go.Value.int Go.IntKind.i64 1)) 3, type := 3, pos := "diagram.go:234", after := #[{ on := 11, ground := Go.Ground.data }], guard := none }) (v := ?v12) rfl (by kernel_rfl) (by kernel_rfl) (by kernel_rfl) (fun _ _ _ h => h) (Or.inl ⟨by rfl, ?y12⟩) (by assumption) ?_
      case y12 => (intro w9 hSw; obtain ⟨y0, y1, y2, y3, y4, y5, y6, y7, y8, y9, y10⟩ := HCL.out w9 hSw.out; go_simp; try with_reducible rfl)
      try simp only [Act.put, List.setIfInBounds_toArray, List.set_cons_zero, List.set_cons_succ]
      refine wpAnyH_ready (rs := [10]) (by kernel_rfl) (by simp) ?_
      refine AllReadyH.cons (o := { dst := some 91, op := Go.Op.call { callee := Go.Callee.value (Go.Operand.func 45), args := #[Go.Operand.tmp 83, Go.Operand.tmp 89, Go.Operand.tmp 90], argTypes := #[24, 9, 3] }, type := 24, pos := "diagram.go:234", after := #[{ on := 2, ground := Go.Ground.data }, { on := 8, ground := Go.Ground.data }, { on := 9, ground := Go.Ground.data }], guard := none }) rfl (fun K hK => ?_) AllReadyH.nil
      (go_simp; go_at_call 45; refine HGIV.out.mono ?_; rintro e w7 ⟨u7, rfl, HI7, HS7, HM7⟩)
      refine hK.out _ _ ?_ (fun hHeld => ?_)
      · exact HM7
      clear hK K
      try simp only [Act.put, List.setIfInBounds_toArray, List.set_cons_zero, List.set_cons_succ]
      refine wpAnyH_ready (rs := [13]) (by kernel_rfl) (by simp) ?_
      refine AllReadyH.cons (o := { dst := some 94, op := Go.Op.call { callee := Go.Callee.value (Go.Operand.tmp 82), args := #[Go.Operand.tmp 91, Go.Operand.tmp 93], argTypes := #[24, 3] }, type := 3, pos := "diagram.go:234", after := #[{ on := 1, ground := Go.Ground.data }, { on := 10, ground := Go.Ground.data }, { on := 12, ground := Go.Ground.data }, { on := 10, ground := Go.Ground.chain }], guard := none }) rfl (fun K hK => ?_) AllReadyH.nil
      (go_simp; go_at_call 39; refine (HGRW.out w7 u7 HI7 HS7).mono ?_; rintro e w8 ⟨rfl, HS8, HM8⟩)
      refine hK.out _ _ ?_ (fun hHeld => ?_)
      · exact HM8
      clear hK K
      try simp only [Act.put, List.setIfInBounds_toArray, List.set_cons_zero, List.set_cons_succ]
      refine wpAnyH_ready (rs := [14]) (by kernel_rfl) (by simp) ?_
      refine AllReadyH.cons (o := { dst := some 95, op := Go.Op.buildSlice 28 1 #[(0, Go.Operand.tmp 94)], type := 28, pos := "diagram.go:234", after := #[{ on := 13, ground := Go.Ground.data }], guard := none }) rfl (fun K hK => ?_) AllReadyH.nil
      go_simp
      refine hK.out _ _ ?_ (fun hHeld => ?_)
      · exact HM8.out.alloc _
      clear hK K
      try simp only [Act.put, List.setIfInBounds_toArray, List.set_cons_zero, List.set_cons_succ]
      refine wpAnyH_ready (rs := [15]) (by kernel_rfl) (by simp) ?_
      refine AllReadyH.cons (o := { dst := some 96, op := Go.Op.call { callee := Go.Callee.builtin Go.Builtin.append, args := #[Go.Operand.tmp 81, Go.Operand.tmp 95], argTypes := #[28, 28] }, type := 28, pos := "diagram.go:234", after := #[{ on := 0, ground := Go.Ground.data }, { on := 14, ground := Go.Ground.data }, { on := 13, ground := Go.Ground.chain }], guard := none }) rfl (fun K hK => ?_) AllReadyH.nil
      (refine own_step (xs := r.2) (hLo.out.own9 HS8.out _) (by rfl) _ _ (by rfl) (by rfl) ⟨w8.heap.size, 0, none⟩ (by rfl) (by have := HS8.out.2.size; rw [World.size_alloc]; omega) (by omega) (kn : Int) ((Blk.new _ _ _).cell 0) ?_; intro g10 c10 w10 h10 hg10 ha10; have HL10 := Lib.hid (hLo.out.app hsK (by omega) HS8.out hg10 rfl ha10 h10))
      refine hK.out _ _ ?_ (fun hHeld => ?_)
      · exact HM6.out.trans HL10.out.mks
      clear hK K
      try simp only [Act.put, List.setIfInBounds_toArray, List.set_cons_zero, List.set_cons_succ]
      refine wpAnyH_take (i := 16) (oi := { dst := some 15, op := Go.Op.assign (Go.Operand.tmp 96), type := 28, pos := "diagram.go:234", after := #[{ on := 15, ground := Go.Ground.data }, { on := 15, ground := Go.Ground.chain }, { on := 0, ground := Go.Ground.phase }, { on := 1, ground := Go.Ground.phase }, { on := 2, ground := Go.Ground.phase }, { on := 3, ground := Go.Ground.phase }, { on := 4, ground := Go.Ground.phase }, { on := 5, ground := Go.Ground.phase }, { on := 6, ground := Go.Ground.phase }, { on := 7, ground := Go.Ground.phase }, { on := 8, ground := Go.Ground.phase }, { on := 9, ground := Go.Ground.phase }, { on := 10, ground := Go.Ground.phase }, { on := 11, ground := Go.Ground.phase }, { on := 12, ground := Go.Ground.phase }, { on := 13, ground := Go.Ground.phase }, { on := 14, ground := Go.Ground.phase }, { on := 15, ground := Go.Ground.phase }], guard := none }) (v := ?v16) rfl (by kernel_rfl) (by kernel_rfl) (by kernel_rfl) (fun _ _ _ h => h) (Or.inl ⟨by rfl, ?y16⟩) (by assumption) ?_
      case y16 => (intro w9 hSw; obtain ⟨y0, y1, y2, y3, y4, y5, y6, y7, y8, y9, y10⟩ := HCL.out w9 hSw.out; go_simp; try with_reducible rfl)
      try simp only [Act.put, List.setIfInBounds_toArray, List.set_cons_zero, List.set_cons_succ]
      refine wpAnyH_done (by kernel_rfl) ?_ _
      go_wp2
      go_roundw
      case rel => exact ⟨j + 1, (rr, r.2 ++ [(kn : Int)]), by omega, by go_num, HSN, HL10⟩
      case measure => simp [intOf]; omega
    · have hje : j = L.length := by omega
      have hrg := hr.out
      rw [hje, List.take_length] at hrg
      have hgg := HGG.out
      rw [← hrg] at hgg
      obtain ⟨q, hq⟩ : ∃ q, innerD r.1.1 i L r.2 = q := ⟨_, rfl⟩
      rw [hq] at hgg
      have HGQ := Lib.hid hgg
      have hlen2 : L.length = r.2.length := by rw [hFj.len]; omega
      have hSb2 : ∀ b ∈ ownL (.slice ak r.2.length ck) ++ S, b < wr.heap.size := fun b hb => by
        rcases List.mem_append.1 hb with hb | hb
        · have e : (Value.slice ak r.2.length ck).ownBlock = some b := by unfold ownL at hb; simpa using hb
          obtain ⟨_, cs, h4⟩ := own_at hLo.out.own b e
          exact heap_lt h4
        · have := hSb b hb; omega
      have hin := inner_any K K (ownL (.slice ak r.2.length ck) ++ S) r.1.1 i L r.2 (.slice (some ⟨g6, 0, none⟩) L.length c6) (.slice ak r.2.length ck) wr hLo.out.st.is (own_ints (own_mks HO6.out hLo.out.mks ⟨by decide, by decide⟩ (by simp))) (own_ints hLo.out.own) hSb2
        (by have := HCAP.out _ _ hFj.inv; omega) (fun e => absurd hlp (by rw [hlen2, e]; simp)) hlen2 (by omega) (by omega) (fun x hx => by have := HLR.out x hx; exact ⟨by omega, by omega⟩) (fun x hx => by have := hFj.kids x hx; exact ⟨by omega, by omega⟩)
        (by
          rw [getD_dg _ _ _ (by omega)]
          exact (hFj.kids _ (List.getElem_mem _)).1) (HE.out.tab.on (hLo.out.st.stp.below (by omega)))
      rw [hq] at hin
      have HQ := Lib.hid hin
      have hmv2 := (hLo.out.st.blk HE.out.mv ⟨by decide, by decide⟩).cell 0
      have HMR : Hid (MkS K [] W wr) := (MkS.of_below ((Below.refl W.heap.size W).alloc (Nat.le_refl _) (.cells #[.int .i64 s.op, .string s.name, .int .i64 s.cmp, .int .i64 s.n, .slice ao s.kids.length cap] 24)) (Nat.le_refl _)).trans hmr
      clear hin hgg hrg hq hFj hlen2 hSb2 hmr hje
      go_upto_region 20 with (go_at_call 46; refine HQ.out.mono ?_; rintro e w7 ⟨rfl, h2, h3⟩; have HS7 := Lib.hid (hLo.out.st.step h3 h2); have HM7 := Lib.hid h3.s; clear h2 h3)
      have hdv2 := (HS7.out.blk HE.out.dv ⟨by decide, by decide⟩).cell 0
      obtain ⟨mp2, hm2, hmp2⟩ := HS7.out.memo
      obtain ⟨W2, hrun2, hm3, hu3⟩ := run_store MapSI.key Tryz.underlying66 hm2 (sI ++ sT) (q.2 : Int)
      have hlearn := HS7.out.learn hmp2 hu3 hm3 hm2
      rw [HKEY.out] at hlearn
      have HLE := Lib.hid hlearn
      clear hmp2 hm3 hu3 hlearn hmv2 hm2
      go_wp2
      go_ret
      rw [HGQ.out]
      exact ⟨rfl, HLE.out.1.less (fun k hk => List.mem_append_right _ hk), (HMR.out.trans HM7.out).trans HLE.out.2⟩

end Go.Proofs.YtejbgoigkefnfaaGreatDoor

namespace Go.Proofs.YtejbgoigkefnfaaGreatDoor
open Go.RowKit

theorem grow_any {w0 : World} {K DB : Nat} {d : List Fa} {fv : Value} (hE : EnvB w0 K DB d fv) (hd : DomOk d) {f0 : Fo} (hcap : ∀ m dn, InvG d.length (flo d) (fhi d) (fun s c => valC d c s) keyD (ResF d f0) m dn → m.length ≤ 20000) :
    ∀ f, GrowW w0 K DB d f0 f
  | 0 => fun S m dn i s v W _ _ _ hf => absurd hf (Nat.not_lt_zero _)
  | f + 1 => by
    intro S m dn i s v W hS hI hR hf hz hst hv
    have hml := hcap _ _ hI
    cases hc : conF s with
    | some bl =>
      rw [grow_con_eq f hc]
      exact grow_con hE i s bl hc m dn (by omega) v W hst hv
    | none =>
      have hi : i < d.length := by
        rcases Nat.lt_or_ge i d.length with h | h
        · exact h
        · have : i = d.length := by have := hR.le; omega
          subst this
          exact absurd hc (res_end hR)
      cases hk : dn.lookup (keyD i s) with
      | some k =>
        rw [grow_hit_eq f hc hml hi hk]
        exact grow_hit hE i hi hd.len s hc hR.wf (by have := spell_len d s.size s (Nat.le_refl _) hR.wf; omega) m dn hml k hk v W hst hv
      | none => exact grow_new hE hd hcap f (grow_any hE hd hcap f) m dn i s v W hS hI hR hf hz hst hv hc hi hk

end Go.Proofs.YtejbgoigkefnfaaGreatDoor

namespace Go.Proofs.YtejbgoigkefnfaaGreatDoor
open Go.RowKit

/-- the world in which Build's recursion begins -/
theorem env_build (W : World) (DB : Nat) (d : List Fa) (fv : Value) (hdb : Blk W DB 27 #[fv]) (hd : SlIn FaR 4 W W.heap.size d fv) (hT : TabH W.heap.size W) : ∃ w0, w0 = ((((((W.alloc (.cells #[.slice none 0 0, .map none] 70)).alloc (.cells #[.pointer (some ⟨W.heap.size, 0, none⟩)] 65)).alloc (.map #[] 0)).alloc (.cells #[.map (some (W.heap.size + 1 + 1))] 66)).alloc (.cells #[.bool false] 4)).alloc (.cells #[.func (.func 39) #[] #[.pointer (some ⟨W.heap.size + 1, 0, none⟩), .pointer (some ⟨W.heap.size + 4, 0, none⟩), .pointer (some ⟨DB, 0, none⟩), .pointer (some ⟨W.heap.size + 3, 0, none⟩), .pointer (some ⟨W.heap.size + 5, 0, none⟩)]] 71)) ∧ EnvB w0 W.heap.size DB d fv ∧ StB w0 W.heap.size [] [] [] w0 ∧ Below W.heap.size W w0 ∧ w0.heap.size = W.heap.size + 6 := by
  have b1 : Below W.heap.size W ((((((W.alloc (.cells #[.slice none 0 0, .map none] 70)).alloc (.cells #[.pointer (some ⟨W.heap.size, 0, none⟩)] 65)).alloc (.map #[] 0)).alloc (.cells #[.map (some (W.heap.size + 1 + 1))] 66)).alloc (.cells #[.bool false] 4)).alloc (.cells #[.func (.func 39) #[] #[.pointer (some ⟨W.heap.size + 1, 0, none⟩), .pointer (some ⟨W.heap.size + 4, 0, none⟩), .pointer (some ⟨DB, 0, none⟩), .pointer (some ⟨W.heap.size + 3, 0, none⟩), .pointer (some ⟨W.heap.size + 5, 0, none⟩)]] 71)) := ((((((Below.refl _ _).alloc (Nat.le_refl _) _).alloc (by simp) _).alloc (by simp; omega) _).alloc (by simp; omega) _).alloc (by simp; omega) _).alloc (by simp; omega) _
  have h0 := (((((Blk.new W 70 #[.slice none 0 0, .map none]).alloc (.cells #[.pointer (some ⟨W.heap.size, 0, none⟩)] 65)).alloc (.map #[] 0)).alloc (.cells #[.map (some (W.heap.size + 1 + 1))] 66)).alloc (.cells #[.bool false] 4)).alloc (.cells #[.func (.func 39) #[] #[.pointer (some ⟨W.heap.size + 1, 0, none⟩), .pointer (some ⟨W.heap.size + 4, 0, none⟩), .pointer (some ⟨DB, 0, none⟩), .pointer (some ⟨W.heap.size + 3, 0, none⟩), .pointer (some ⟨W.heap.size + 5, 0, none⟩)]] 71)
  have h1 := ((((Blk.new (W.alloc (.cells #[.slice none 0 0, .map none] 70)) 65 #[.pointer (some ⟨W.heap.size, 0, none⟩)]).alloc (.map #[] 0)).alloc (.cells #[.map (some (W.heap.size + 1 + 1))] 66)).alloc (.cells #[.bool false] 4)).alloc (.cells #[.func (.func 39) #[] #[.pointer (some ⟨W.heap.size + 1, 0, none⟩), .pointer (some ⟨W.heap.size + 4, 0, none⟩), .pointer (some ⟨DB, 0, none⟩), .pointer (some ⟨W.heap.size + 3, 0, none⟩), .pointer (some ⟨W.heap.size + 5, 0, none⟩)]] 71)
  have h3 := ((Blk.new (((W.alloc (.cells #[.slice none 0 0, .map none] 70)).alloc (.cells #[.pointer (some ⟨W.heap.size, 0, none⟩)] 65)).alloc (.map #[] 0)) 66 #[.map (some (W.heap.size + 1 + 1))]).alloc (.cells #[.bool false] 4)).alloc (.cells #[.func (.func 39) #[] #[.pointer (some ⟨W.heap.size + 1, 0, none⟩), .pointer (some ⟨W.heap.size + 4, 0, none⟩), .pointer (some ⟨DB, 0, none⟩), .pointer (some ⟨W.heap.size + 3, 0, none⟩), .pointer (some ⟨W.heap.size + 5, 0, none⟩)]] 71)
  have h4 := (Blk.new ((((W.alloc (.cells #[.slice none 0 0, .map none] 70)).alloc (.cells #[.pointer (some ⟨W.heap.size, 0, none⟩)] 65)).alloc (.map #[] 0)).alloc (.cells #[.map (some (W.heap.size + 1 + 1))] 66)) 4 #[.bool false]).alloc (.cells #[.func (.func 39) #[] #[.pointer (some ⟨W.heap.size + 1, 0, none⟩), .pointer (some ⟨W.heap.size + 4, 0, none⟩), .pointer (some ⟨DB, 0, none⟩), .pointer (some ⟨W.heap.size + 3, 0, none⟩), .pointer (some ⟨W.heap.size + 5, 0, none⟩)]] 71)
  have h5 := Blk.new (((((W.alloc (.cells #[.slice none 0 0, .map none] 70)).alloc (.cells #[.pointer (some ⟨W.heap.size, 0, none⟩)] 65)).alloc (.map #[] 0)).alloc (.cells #[.map (some (W.heap.size + 1 + 1))] 66)).alloc (.cells #[.bool false] 4)) 71 #[.func (.func 39) #[] #[.pointer (some ⟨W.heap.size + 1, 0, none⟩), .pointer (some ⟨W.heap.size + 4, 0, none⟩), .pointer (some ⟨DB, 0, none⟩), .pointer (some ⟨W.heap.size + 3, 0, none⟩), .pointer (some ⟨W.heap.size + 5, 0, none⟩)]]
  have h2 : (((((((W.alloc (.cells #[.slice none 0 0, .map none] 70)).alloc (.cells #[.pointer (some ⟨W.heap.size, 0, none⟩)] 65)).alloc (.map #[] 0)).alloc (.cells #[.map (some (W.heap.size + 1 + 1))] 66)).alloc (.cells #[.bool false] 4)).alloc (.cells #[.func (.func 39) #[] #[.pointer (some ⟨W.heap.size + 1, 0, none⟩), .pointer (some ⟨W.heap.size + 4, 0, none⟩), .pointer (some ⟨DB, 0, none⟩), .pointer (some ⟨W.heap.size + 3, 0, none⟩), .pointer (some ⟨W.heap.size + 5, 0, none⟩)]] 71))).heap[W.heap.size + 2]? = some (.map #[] 0) := by
    have q := World.alloc_heap_new ((W.alloc (.cells #[.slice none 0 0, .map none] 70)).alloc (.cells #[.pointer (some ⟨W.heap.size, 0, none⟩)] 65)) (.map #[] 0)
    simp only [World.size_alloc] at q
    rw [Below.heap_alloc _ _ _ (by simp), Below.heap_alloc _ _ _ (by simp), Below.heap_alloc _ _ _ (by simp)]
    exact q
  simp only [World.size_alloc] at h1 h3 h4 h5
  refine ⟨_, rfl, ⟨h1, h3, h4, h5, hdb.below b1, hdb.lt, SlIn.below FaR.kept b1 hd, hT.on b1, by simp⟩, ⟨MkS.refl _ _ _, ⟨Nat.le_refl _, ⟨.slice none 0 0, none, [], h0, World.ownsRow_nil _ _ _ _, rfl, by simp, .inl ⟨rfl, rfl⟩⟩, by simp⟩, ?_, [], ⟨#[], 0, h2, rfl⟩, fun k => rfl⟩, b1, by simp⟩
  rw [h0.cell 1]; simp

/-- a block of one slice holds no numbers -/
theorem blk_slice_ne {w : World} {b : Nat} {t : TypeId} {a : Option Addr} {n c : Nat} (hb : Blk w b t #[.slice a n c]) {b' o : Nat} {x : Int} (h : w.cell? ⟨b', o, none⟩ = some (.int .i64 x)) : b' ≠ b := by
  rintro rfl
  rw [hb.cell o] at h
  match o, h with
  | 0, h => simp at h
  | o + 1, h => simp at h
theorem ints_set {w : World} {b B : Nat} {t : TypeId} {a : Option Addr} {n c : Nat} (hb : Blk w b t #[.slice a n c]) (u : Value) {l : List Int} {v : Value} (h : IntsIn w B l v) : IntsIn (w.setCell ⟨b, 0, none⟩ u) B l v := by
  obtain ⟨ao, cap, rfl, h1, h2, h3⟩ := h
  refine ⟨ao, cap, rfl, h1, h2, fun hne => ?_⟩
  obtain ⟨b', off, rfl, hlt, hc⟩ := h3 hne
  refine ⟨b', off, rfl, hlt, fun i hi => ?_⟩
  have hne' : b' ≠ b := blk_slice_ne hb (hc i hi)
  show (w.setCell ⟨b, 0, none⟩ u).cell? _ = _
  rw [World.cell?_of_block (a := ⟨b', _, none⟩) (Below.heap_setCell w ⟨b, 0, none⟩ u b' hne')]
  exact hc i hi
theorem DgIn.set {w : World} {b B : Nat} {t : TypeId} {a : Option Addr} {n c : Nat} (hb : Blk w b t #[.slice a n c]) (u : Value) {g : List Dn} {v : Value} (h : DgIn w B g v) : DgIn (w.setCell ⟨b, 0, none⟩ u) B g v := by
  obtain ⟨_, rfl, ao, cap, rfl, h1, h2, h3⟩ := h
  refine ⟨_, rfl, ao, cap, rfl, h1, h2, fun hne => ?_⟩
  obtain ⟨b', off, rfl, hlt, hc⟩ := h3 hne
  refine ⟨b', off, rfl, hlt, fun i hi => ?_⟩
  obtain ⟨vc, vk, c0, c1, c2, c3, hcu, hki⟩ := hc i hi
  have hne' : b' ≠ b := blk_slice_ne hb c0
  have e : ∀ o, (w.setCell ⟨b, 0, none⟩ u).cell? ⟨b', o, none⟩ = w.cell? ⟨b', o, none⟩ := fun o => World.cell?_of_block (a := ⟨b', o, none⟩) (Below.heap_setCell w ⟨b, 0, none⟩ u b' hne')
  exact ⟨vc, vk, (e _).trans c0, (e _).trans c1, (e _).trans c2, (e _).trans c3, ints_set hb u hcu, ints_set hb u hki⟩

theorem DgIn.nil (w : World) (B : Nat) : DgIn w B [] (.agg #[.slice none 0 0]) := ⟨_, rfl, none, 0, rfl, Nat.le_refl _, Nat.zero_le _, fun h => absurd rfl h⟩

attribute [local go_sem] run_store_func2

set_option maxRecDepth 100000 in
set_option maxHeartbeats 4000000 in
theorem build_any (f : Fo) (d : List Fa) (v u : Value) (w : World) (B : Nat) (hs : f.size ≤ 1000000) (hB : B ≤ w.heap.size) (hf : f.In w B v) (hd : DomIn w B d u) (hT : TabH w.heap.size w) (hcap : validD d = true → checkF f d (fun _ => false) = 0 → BuiltB d f) :
    Calls Tryz.prog 12 #[v, u] w fun e w' => ∃ g, e = .returned (.tuple #[g, .int .i64 (buildD d f).2]) ∧ DgIn w' w'.heap.size (buildD d f).1 g ∧ Below w.heap.size w w' := by
  obtain ⟨ao, cap, rfl⟩ := hf.shape
  have HD := Lib.hid hd
  obtain ⟨du, rfl, hdu⟩ := hd
  obtain ⟨ad, cd, rfl, d1, d2, _⟩ := SlIn.shape hdu
  have HF := Lib.hid hf
  have hB3 : Below w.heap.size w (((w.alloc (.cells #[.int .i64 f.op, .string f.name, .int .i64 f.cmp, .int .i64 f.n, .slice ao f.kids.length cap] 24)).alloc (.cells #[.slice ad d.length cd] 27)).alloc (.cells #[.slice none 0 0] 34)) := (((Below.refl _ _).alloc (Nat.le_refl _) _).alloc (by simp) _).alloc (by simp; omega) _
  have K0 : Blk (((w.alloc (.cells #[.int .i64 f.op, .string f.name, .int .i64 f.cmp, .int .i64 f.n, .slice ao f.kids.length cap] 24)).alloc (.cells #[.slice ad d.length cd] 27)).alloc (.cells #[.slice none 0 0] 34)) w.heap.size 24 #[.int .i64 f.op, .string f.name, .int .i64 f.cmp, .int .i64 f.n, .slice ao f.kids.length cap] := ((Blk.new w 24 #[.int .i64 f.op, .string f.name, .int .i64 f.cmp, .int .i64 f.n, .slice ao f.kids.length cap]).alloc _).alloc _
  have K1 : Blk (((w.alloc (.cells #[.int .i64 f.op, .string f.name, .int .i64 f.cmp, .int .i64 f.n, .slice ao f.kids.length cap] 24)).alloc (.cells #[.slice ad d.length cd] 27)).alloc (.cells #[.slice none 0 0] 34)) (w.heap.size + 1) 27 #[.slice ad d.length cd] := by
    have q := (Blk.new (w.alloc (.cells #[.int .i64 f.op, .string f.name, .int .i64 f.cmp, .int .i64 f.n, .slice ao f.kids.length cap] 24)) 27 #[.slice ad d.length cd]).alloc (.cells #[.slice none 0 0] 34)
    simpa only [World.size_alloc] using q
  have K2 : Blk (((w.alloc (.cells #[.int .i64 f.op, .string f.name, .int .i64 f.cmp, .int .i64 f.n, .slice ao f.kids.length cap] 24)).alloc (.cells #[.slice ad d.length cd] 27)).alloc (.cells #[.slice none 0 0] 34)) (w.heap.size + 2) 34 #[.slice none 0 0] := by
    have q := Blk.new ((w.alloc (.cells #[.int .i64 f.op, .string f.name, .int .i64 f.cmp, .int .i64 f.n, .slice ao f.kids.length cap] 24)).alloc (.cells #[.slice ad d.length cd] 27)) 34 #[.slice none 0 0]
    simpa only [World.size_alloc] using q
  have HV := Lib.hid (valid_any d _ (((w.alloc (.cells #[.int .i64 f.op, .string f.name, .int .i64 f.cmp, .int .i64 f.n, .slice ao f.kids.length cap] 24)).alloc (.cells #[.slice ad d.length cd] 27)).alloc (.cells #[.slice none 0 0] 34)) B (by simp; omega) (HD.out.below (hB3.mono hB)))
  have HCK : Hid (∀ w', Below w.heap.size w w' → Calls Tryz.prog 14 #[.agg #[.int .i64 f.op, .string f.name, .int .i64 f.cmp, .int .i64 f.n, .slice ao f.kids.length cap], .agg #[.slice ad d.length cd], .slice none 0 0] w' fun e w'' => e = .returned (.int .i64 (checkF f d (fun _ => false))) ∧ Below w'.heap.size w' w'') := fun w' hb =>
    checkP_any f d [] _ _ _ w' B hs (by have := hb.size; omega) (Fo.In.below (hb.mono hB) _ _ HF.out) (HD.out.below (hb.mono hB)) ⟨none, 0, rfl, Nat.le_refl _, Nat.zero_le _, fun h => absurd rfl h⟩
  obtain ⟨GG, hGG⟩ : ∃ GG, buildD d f = GG := ⟨_, rfl⟩
  rw [hGG]
  have HGG := Lib.hid hGG
  have HCAP := Lib.hid hcap
  have HTB := Lib.hid hT
  have HB3 := Lib.hid hB3
  have HK0 := Lib.hid K0
  have HK1 := Lib.hid K1
  have HK2 := Lib.hid K2
  have HDU := Lib.hid hdu
  clear hf hdu hGG hcap hT hB3 K0 K1 K2
  cases hvd : validD d with
  | false =>
    rw [hvd] at HV
    have hGe : GG = ([], 1) := by rw [← HGG.out]; unfold buildD; rw [if_pos (.inl hvd)]
    subst hGe
    clear hvd HGG
    go_enter Tryz.func12, Tryz.ntmps12
    go_wp2_with (go_at_call 13; refine HV.out.mono ?_; rintro e w4 ⟨rfl, hb4⟩; have x0 := (HK0.out.below hb4).cell 0; have x1 := (HK0.out.below hb4).cell 1; have x2 := (HK0.out.below hb4).cell 2; have x3 := (HK0.out.below hb4).cell 3; have x4 := (HK0.out.below hb4).cell 4; have y0 := (HK1.out.below hb4).cell 0; have z2 := (HK2.out.below hb4).frozen 0; have c2 := (HK2.out.below hb4).cell 0; have HX0 := Lib.hid (HK0.out.below hb4); have HX1 := Lib.hid (HK1.out.below hb4); have HX2 := Lib.hid (HK2.out.below hb4); have HB4 := Lib.hid (HB3.out.trans (hb4.mono (by simp; omega))); have hs4 := hb4.size; simp only [World.size_alloc] at hs4; clear hb4)
    have hcs := (HX2.out.set 0 (.slice none 0 0)).cell 0
    refine bodyPost_ret (by simp [results, Tryz.results12, go_sem, hcs]; try rfl) rfl ?_
    exact ⟨_, rfl, DgIn.nil _ _, HB4.out.setCell (by show w.heap.size ≤ w.heap.size + 1 + 1; omega) _⟩
  | true =>
    rw [hvd] at HV
    by_cases hck : checkF f d (fun _ => false) = 0
    · have hbt := HCAP.out hvd hck
      rw [hck] at HCK
      have hw := wf_check hck
      have hsz := (check_nodes hck).1
      have HTS : Hid (∀ w5, Below w.heap.size w w5 → Calls Tryz.prog 38 #[.agg #[.int .i64 f.op, .string f.name, .int .i64 f.cmp, .int .i64 f.n, .slice ao f.kids.length cap], .map (some w5.heap.size)] (w5.alloc (.map #[] 0)) fun e w' => e = .returned (.map (some w5.heap.size)) ∧ StT (w5.alloc (.map #[] 0)) w5.heap.size (tstF f []) w') := fun w5 hb =>
        tst_any d B (w5.alloc (.map #[] 0)) w5.heap.size (by have := hb.size; omega) (by have := hb.size; simp; omega) f.size f (Nat.le_refl _) _ [] _ ⟨rfl, rfl, rfl, Nat.le_refl _, fun _ _ _ => rfl, MapIs.made (ek := Value.string) (ev := Value.bool) w5⟩
          (Fo.In.below ((hb.trans (((Below.refl _ _).alloc (Nat.le_refl _) _).mono hb.size)).mono hB) _ _ HF.out)
      have hmm := @run_makeMap Tryz.prog
      by_cases hlen : 24 < (tstF f []).length
      · have hGe : GG = ([], 2) := by rw [← HGG.out]; unfold buildD; rw [if_neg (by rw [hvd]; simp [hck]), if_pos hlen]
        subst hGe
        clear hvd HGG hck hbt hw
        go_enter Tryz.func12, Tryz.ntmps12
        go_upto_region 3 with (first | (go_at_call 13; refine HV.out.mono ?_; rintro e w4 ⟨rfl, hb4⟩; have x0 := (HK0.out.below hb4).cell 0; have x1 := (HK0.out.below hb4).cell 1; have x2 := (HK0.out.below hb4).cell 2; have x3 := (HK0.out.below hb4).cell 3; have x4 := (HK0.out.below hb4).cell 4; have y0 := (HK1.out.below hb4).cell 0; have z2 := (HK2.out.below hb4).frozen 0; have c2 := (HK2.out.below hb4).cell 0; have HX0 := Lib.hid (HK0.out.below hb4); have HX1 := Lib.hid (HK1.out.below hb4); have HX2 := Lib.hid (HK2.out.below hb4); have HB4 := Lib.hid (HB3.out.trans (hb4.mono (by simp; omega))); have hs4 := hb4.size; simp only [World.size_alloc] at hs4; clear hb4) | (go_at_call 14; refine (HCK.out _ HB4.out).mono ?_; rintro e w5 ⟨rfl, hb5⟩; clear x0 x1 x2 x3 x4 y0 z2 c2; have x0 := (HX0.out.below hb5).cell 0; have x1 := (HX0.out.below hb5).cell 1; have x2 := (HX0.out.below hb5).cell 2; have x3 := (HX0.out.below hb5).cell 3; have x4 := (HX0.out.below hb5).cell 4; have z2 := (HX2.out.below hb5).frozen 0; have c2 := (HX2.out.below hb5).cell 0; have HY0 := Lib.hid (HX0.out.below hb5); have HY1 := Lib.hid (HX1.out.below hb5); have HY2 := Lib.hid (HX2.out.below hb5); have HB5 := Lib.hid (HB4.out.trans (hb5.mono (by omega))); have hs5 := hb5.size; clear hb5))
        clear HCK HV
        go_wp2_with ((go_at_call 38; refine (HTS.out w5 HB5.out).mono ?_; rintro e w6 ⟨rfl, hst⟩; obtain ⟨es, ck, hme, hml⟩ := hst.map; have hes : es.size = (tstF f []).length := (by have q := congrArg List.length hml; simpa using q); have hb6 : Below w5.heap.size w5 w6 := ((Below.refl _ _).alloc (Nat.le_refl _) (.map #[] 0)).trans (hst.below (by simp) (Nat.le_refl _)); have hln := run_len_map (P := Tryz.prog) (w := w6) 63 3 w5.heap.size es ck (by kernel_rfl) hme; clear hst hml; clear x0 x1 x2 x3 x4 z2 c2; have x0 := (HY0.out.below hb6).cell 0; have x1 := (HY0.out.below hb6).cell 1; have x2 := (HY0.out.below hb6).cell 2; have x3 := (HY0.out.below hb6).cell 3; have x4 := (HY0.out.below hb6).cell 4; have z2 := (HY2.out.below hb6).frozen 0; have c2 := (HY2.out.below hb6).cell 0; have HZ0 := Lib.hid (HY0.out.below hb6); have HZ1 := Lib.hid (HY1.out.below hb6); have HZ2 := Lib.hid (HY2.out.below hb6); have HB6 := Lib.hid (HB5.out.trans (hb6.mono (by omega))); have hs6 := hb6.size; clear hb6); have hdd : decide ((24 : Int) < (es.size : Int)) = true := (by rw [hes]; simp; omega))
        have hcs := (HZ2.out.set 0 (.slice none 0 0)).cell 0
        refine bodyPost_ret (by simp [results, Tryz.results12, go_sem, hcs]; try rfl) rfl ?_
        exact ⟨_, rfl, DgIn.nil _ _, HB6.out.setCell (by show w.heap.size ≤ w.heap.size + 1 + 1; omega) _⟩
      · have hGe : GG = (tableB d f, 0) := by rw [← HGG.out]; unfold buildD; rw [if_neg (by rw [hvd]; simp [hck]), if_neg hlen]
        subst hGe
        have HDK := Lib.hid (dom_ok hvd)
        have HBT := Lib.hid hbt
        have HWF := Lib.hid hw
        clear hvd HGG hck hbt hw
        go_enter Tryz.func12, Tryz.ntmps12
        go_upto_region 3 with (first | (go_at_call 13; refine HV.out.mono ?_; rintro e w4 ⟨rfl, hb4⟩; have x0 := (HK0.out.below hb4).cell 0; have x1 := (HK0.out.below hb4).cell 1; have x2 := (HK0.out.below hb4).cell 2; have x3 := (HK0.out.below hb4).cell 3; have x4 := (HK0.out.below hb4).cell 4; have y0 := (HK1.out.below hb4).cell 0; have z2 := (HK2.out.below hb4).frozen 0; have c2 := (HK2.out.below hb4).cell 0; have HX0 := Lib.hid (HK0.out.below hb4); have HX1 := Lib.hid (HK1.out.below hb4); have HX2 := Lib.hid (HK2.out.below hb4); have HB4 := Lib.hid (HB3.out.trans (hb4.mono (by simp; omega))); have hs4 := hb4.size; simp only [World.size_alloc] at hs4; clear hb4) | (go_at_call 14; refine (HCK.out _ HB4.out).mono ?_; rintro e w5 ⟨rfl, hb5⟩; clear x0 x1 x2 x3 x4 y0 z2 c2; have x0 := (HX0.out.below hb5).cell 0; have x1 := (HX0.out.below hb5).cell 1; have x2 := (HX0.out.below hb5).cell 2; have x3 := (HX0.out.below hb5).cell 3; have x4 := (HX0.out.below hb5).cell 4; have z2 := (HX2.out.below hb5).frozen 0; have c2 := (HX2.out.below hb5).cell 0; have HY0 := Lib.hid (HX0.out.below hb5); have HY1 := Lib.hid (HX1.out.below hb5); have HY2 := Lib.hid (HX2.out.below hb5); have HB5 := Lib.hid (HB4.out.trans (hb5.mono (by omega))); have hs5 := hb5.size; clear hb5))
        clear HCK HV
        go_upto_region 5 with ((go_at_call 38; refine (HTS.out w5 HB5.out).mono ?_; rintro e w6 ⟨rfl, hst⟩; obtain ⟨es, ck, hme, hml⟩ := hst.map; have hes : es.size = (tstF f []).length := (by have q := congrArg List.length hml; simpa using q); have hb6 : Below w5.heap.size w5 w6 := ((Below.refl _ _).alloc (Nat.le_refl _) (.map #[] 0)).trans (hst.below (by simp) (Nat.le_refl _)); have hln := run_len_map (P := Tryz.prog) (w := w6) 63 3 w5.heap.size es ck (by kernel_rfl) hme; clear hst hml; clear x0 x1 x2 x3 x4 z2 c2; have x0 := (HY0.out.below hb6).cell 0; have x1 := (HY0.out.below hb6).cell 1; have x2 := (HY0.out.below hb6).cell 2; have x3 := (HY0.out.below hb6).cell 3; have x4 := (HY0.out.below hb6).cell 4; have z2 := (HY2.out.below hb6).frozen 0; have c2 := (HY2.out.below hb6).cell 0; have HZ0 := Lib.hid (HY0.out.below hb6); have HZ1 := Lib.hid (HY1.out.below hb6); have HZ2 := Lib.hid (HY2.out.below hb6); have HB6 := Lib.hid (HB5.out.trans (hb6.mono (by omega))); have hs6 := hb6.size; clear hb6); have hdd : decide ((24 : Int) < (es.size : Int)) = false := (by rw [hes]; simp; omega))
        clear hme hln hes hdd x0 x1 x2 x3 x4
        obtain ⟨w0, hw0, hE, hst0, hb0, hs0⟩ := env_build w6 (w.heap.size + 1) d _ HZ1.out ((SlIn.below FaR.kept (HB6.out.mono hB) HDU.out).mono FaR.mono (by omega)) (fun w' hb => HTB.out w' (HB6.out.trans (hb.mono (by omega))))
        have HW0 := Lib.hid hw0
        have HE := Lib.hid hE
        have HST0 := Lib.hid hst0
        have HB0 := Lib.hid hb0
        have hb60 := HB6.out.trans (hb0.mono (by omega : w.heap.size ≤ w6.heap.size))
        have HIP : Hid (f.InP w0.drew (Fix w0.drew w6.heap.size []) (.agg #[.int .i64 f.op, .string f.name, .int .i64 f.cmp, .int .i64 f.n, .slice ao f.kids.length cap])) :=
          Fo.InP.step (P := (· < B)) (fun _ _ => rfl) (fun b h => ⟨by show b < w0.heap.size; omega, .inl (by omega)⟩) _ _ (Fo.In.toP _ _ (Fo.In.below (hb60.drew.mono hB) _ _ HF.out))
        have HMD : Hid (MkS w6.heap.size [] w0 w0.drew) := MkS.of_below ((Below.refl w0.heap.size w0).drew) (Nat.le_refl _)
        have HGV : Hid (Calls Tryz.prog 45 #[.agg #[.int .i64 f.op, .string f.name, .int .i64 f.cmp, .int .i64 f.n, .slice ao f.kids.length cap], .string (⟨#[]⟩ : ByteArray), .int .i64 0] w0.drew fun e w'' => ∃ u, e = .returned u ∧ Hid ((givF nilB 0 f).InP w'' (Fix w'' w6.heap.size []) u) ∧ Hid (StB w0 w6.heap.size [] [] [] w'') ∧ Hid (MkS w6.heap.size [] w0 w'')) := by
          have q := given_any (Fix w0.drew w6.heap.size []) nilB 0 d f.size f (Nat.le_refl _) (by omega) HWF.out _ w0.drew (fun b h => h.1) HIP.out
          refine q.mono ?_
          rintro e w'' ⟨u, rfl, h2, h3⟩
          exact ⟨u, rfl, foNew (W := w0.drew) (by simp) h3 h2, HST0.out.below (((Below.refl w0.heap.size w0).drew).trans h3), HMD.out.trans (MkS.of_below h3 (Nat.le_refl _))⟩
        have HGW : Hid (∀ w7 u, Hid ((givF nilB 0 f).InP w7 (Fix w7 w6.heap.size []) u) → Hid (StB w0 w6.heap.size [] [] [] w7) → Hid (MkS w6.heap.size [] w0 w7) → Calls Tryz.prog 39 #[u, .int .i64 0, .pointer (some ⟨w6.heap.size + 1, 0, none⟩), .pointer (some ⟨w6.heap.size + 4, 0, none⟩), .pointer (some ⟨w.heap.size + 1, 0, none⟩), .pointer (some ⟨w6.heap.size + 3, 0, none⟩), .pointer (some ⟨w6.heap.size + 5, 0, none⟩)] w7 fun e w8 => e = .returned (.int .i64 (rootB d f).2) ∧ Hid (StB w0 w6.heap.size [] (rootB d f).1.1 (rootB d f).1.2 w8) ∧ Hid (MkS w6.heap.size [] w0 w8)) := by
          intro w7 u h1 h2 h3
          have hgz := giv_size d nilB 0 f.size f (Nat.le_refl _) HWF.out
          have q := grow_any HE.out HDK.out HBT.out.cap (d.length + 1) [] [] [] 0 (givF nilB 0 f) u w7 (by simp) (inv_start f) (res_first HWF.out) (by omega) (by omega) h2.out h1.out
          refine q.mono ?_
          rintro e w8 ⟨rfl, h4, h5⟩
          exact ⟨rfl, h4, h3.out.trans h5⟩
        have HKP : Hid (∀ w', Hid (MkS w6.heap.size [] w0 w') → (w'.cell? ⟨w.heap.size, 0, none⟩ = some (.int .i64 f.op) ∧ w'.cell? ⟨w.heap.size, 1, none⟩ = some (.string f.name) ∧ w'.cell? ⟨w.heap.size, 2, none⟩ = some (.int .i64 f.cmp) ∧ w'.cell? ⟨w.heap.size, 3, none⟩ = some (.int .i64 f.n) ∧ w'.cell? ⟨w.heap.size, 4, none⟩ = some (.slice ao f.kids.length cap) ∧ w'.cell? ⟨w6.heap.size + 5, 0, none⟩ = some (.func (.func 39) #[] #[.pointer (some ⟨w6.heap.size + 1, 0, none⟩), .pointer (some ⟨w6.heap.size + 4, 0, none⟩), .pointer (some ⟨w.heap.size + 1, 0, none⟩), .pointer (some ⟨w6.heap.size + 3, 0, none⟩), .pointer (some ⟨w6.heap.size + 5, 0, none⟩)])) ∧ Hid (MkS w6.heap.size [] w0 w')) := by
          intro w' hm
          have z := HZ0.out.below (HB0.out.trans (hm.out.below (by omega)))
          have k5 : Blk w' (w6.heap.size + 5) 71 _ := hm.out.keep _ _ HE.out.gv (.inr ⟨rfl, by simp⟩)
          exact ⟨⟨z.cell 0, z.cell 1, z.cell 2, z.cell 3, z.cell 4, k5.cell 0⟩, hm⟩
        clear hw0 hE hst0 hb0 hb60
        go_upto_region 10 with (fail)
        rw [← HW0.out]
        go_region_held3 (fun w' => (w'.cell? ⟨w.heap.size, 0, none⟩ = some (.int .i64 f.op) ∧ w'.cell? ⟨w.heap.size, 1, none⟩ = some (.string f.name) ∧ w'.cell? ⟨w.heap.size, 2, none⟩ = some (.int .i64 f.cmp) ∧ w'.cell? ⟨w.heap.size, 3, none⟩ = some (.int .i64 f.n) ∧ w'.cell? ⟨w.heap.size, 4, none⟩ = some (.slice ao f.kids.length cap) ∧ w'.cell? ⟨w6.heap.size + 5, 0, none⟩ = some (.func (.func 39) #[] #[.pointer (some ⟨w6.heap.size + 1, 0, none⟩), .pointer (some ⟨w6.heap.size + 4, 0, none⟩), .pointer (some ⟨w.heap.size + 1, 0, none⟩), .pointer (some ⟨w6.heap.size + 3, 0, none⟩), .pointer (some ⟨w6.heap.size + 5, 0, none⟩)])) ∧ Hid (MkS w6.heap.size [] w0 w'))
          (exact HKP.out _ (by assumption))
          (first
            | (go_at_call 45; refine HGV.out.mono ?_; rintro e w7 ⟨u7, rfl, HI7, HS7, HM7⟩)
            | (go_at_call 39; refine (HGW.out _ _ HI7 HS7 HM7).mono ?_; rintro e w8 ⟨rfl, HS8, HM8⟩))
        go_split_ands
        have hb8 : Below w6.heap.size w6 w8 := HB0.out.trans (HS8.out.stp.below (by omega))
        have hs8 := hb8.size
        have hfb8 := (HS8.out.blk HE.out.fb ⟨by decide, by decide⟩).cell 0
        have hmv8 := (HS8.out.blk HE.out.mv ⟨by decide, by decide⟩).cell 0
        have HY8 := Lib.hid (HZ2.out.below hb8)
        have HB8 := Lib.hid (HB6.out.trans (hb8.mono (by omega)))
        have HFR : Hid (Calls Tryz.prog 47 #[.pointer (some ⟨w6.heap.size, 0, none⟩), .int .i64 ((rootB d f).2 : Int)] w8 fun e W' => ∃ (au : Option Addr) (cu : Nat), e = .returned (.tuple #[.agg #[.slice au (tableB d f).length cu], .int .i64 0]) ∧ Hid (DgIn W' W'.heap.size (tableB d f) (.agg #[.slice au (tableB d f).length cu])) ∧ Hid (Below w8.heap.size w8 W')) := by
          have hl := HBT.out.cap _ _ HBT.out.inv
          have q := from_any (rootB d f).1.1 w6.heap.size w6.heap.size [] (rootB d f).2 w8 HS8.out.is HBT.out.inv.made.table HBT.out.root.lt hl (fun n hn => by have := (table_few HDK.out HBT.out.inv.made.table n hn).1; omega)
          refine q.mono ?_
          rintro e W' ⟨_, rfl, ⟨u, rfl, h1⟩, h2⟩
          obtain ⟨au, cu, rfl, _⟩ := SlIn.shape h1
          exact ⟨au, cu, rfl, ⟨_, rfl, h1⟩, h2⟩
        clear HS8 HM8 HI7 HS7 HM7 hb8 HKP HGW HGV HIP HMD
        go_wp2_with (go_at_call 47; refine HFR.out.mono ?_; rintro e w9 ⟨au, cu, rfl, HU9, HB9⟩; have c9 := (HY8.out.below HB9.out).cell 0; have z9 := (HY8.out.below HB9.out).frozen 0; have HY9 := Lib.hid (HY8.out.below HB9.out))
        have hcs := (HY9.out.set 0 (.slice au (tableB d f).length cu)).cell 0
        refine bodyPost_ret (by simp [results, Tryz.results12, go_sem, hcs]; try rfl) rfl ?_
        have hs9 := HB9.out.size
        refine ⟨_, rfl, ?_, (HB8.out.trans (HB9.out.mono (by omega))).setCell (by show w.heap.size ≤ w.heap.size + 1 + 1; omega) _⟩
        simp only [World.size_setCell]
        exact HU9.out.set HY9.out _
    · have hGe : GG = ([], 1) := by rw [← HGG.out]; unfold buildD; rw [if_pos (.inr hck)]
      subst hGe
      have hne : (checkF f d (fun _ => false) != 0) = true := by simpa using hck
      clear hvd HGG hck
      go_enter Tryz.func12, Tryz.ntmps12
      go_wp2_with (first | (go_at_call 13; refine HV.out.mono ?_; rintro e w4 ⟨rfl, hb4⟩; have x0 := (HK0.out.below hb4).cell 0; have x1 := (HK0.out.below hb4).cell 1; have x2 := (HK0.out.below hb4).cell 2; have x3 := (HK0.out.below hb4).cell 3; have x4 := (HK0.out.below hb4).cell 4; have y0 := (HK1.out.below hb4).cell 0; have z2 := (HK2.out.below hb4).frozen 0; have c2 := (HK2.out.below hb4).cell 0; have HX0 := Lib.hid (HK0.out.below hb4); have HX1 := Lib.hid (HK1.out.below hb4); have HX2 := Lib.hid (HK2.out.below hb4); have HB4 := Lib.hid (HB3.out.trans (hb4.mono (by simp; omega))); have hs4 := hb4.size; simp only [World.size_alloc] at hs4; clear hb4) | (go_at_call 14; refine (HCK.out _ HB4.out).mono ?_; rintro e w5 ⟨rfl, hb5⟩; clear x0 x1 x2 x3 x4 y0 z2 c2; have x0 := (HX0.out.below hb5).cell 0; have x1 := (HX0.out.below hb5).cell 1; have x2 := (HX0.out.below hb5).cell 2; have x3 := (HX0.out.below hb5).cell 3; have x4 := (HX0.out.below hb5).cell 4; have z2 := (HX2.out.below hb5).frozen 0; have c2 := (HX2.out.below hb5).cell 0; have HY0 := Lib.hid (HX0.out.below hb5); have HY1 := Lib.hid (HX1.out.below hb5); have HY2 := Lib.hid (HX2.out.below hb5); have HB5 := Lib.hid (HB4.out.trans (hb5.mono (by omega))); have hs5 := hb5.size; clear hb5))
      have hcs := (HY2.out.set 0 (.slice none 0 0)).cell 0
      refine bodyPost_ret (by simp [results, Tryz.results12, go_sem, hcs]; try rfl) rfl ?_
      exact ⟨_, rfl, DgIn.nil _ _, HB5.out.setCell (by show w.heap.size ≤ w.heap.size + 1 + 1; omega) _⟩

end Go.Proofs.YtejbgoigkefnfaaGreatDoor
