/- The walk of (*norm.asker).applies. Without circles; a bound on the conditions' sizes. -/
import Derived.Test.YtihpoecdnchioaaGreatDoorApEnv
import Derived.Test.YtihpoecdnchioaaGreatDoorCirc
namespace Go.Proofs.YtihpoecdnchioaaGreatDoor
open Go.RowKit Tj

/-- applies, at the provisions below a number -/
def ApOk (w0 : World) (ab mk n : Nat) (apf : Nat → Bool) (rk : Nat → Nat) (N : Nat) : Prop :=
  ∀ i W, rk i < N → i < n → Kn w0 mk ab apf W → Calls Tryz.prog 29 #[.pointer (some ⟨ab, 0, none⟩), .int .i64 (i : Int)] W fun e w' => e = .returned (.bool (apf i)) ∧ Kn w0 mk ab apf w'

set_option maxRecDepth 100000 in
set_option maxHeartbeats 8000000 in
theorem applies_step (w0 : World) (B ab nb bb mk : Nat) (d : List Fa) (ps : List Pv) (c : List Int) (rows : List (List Nat)) (ad : Option Addr) (cd : Nat) (ap : Option Addr) (cp : Nat) (ac : Option Addr) (cc : Nat) (E : AEnv w0 B ab nb bb mk d ps c rows ad cd ap cp ac cc)
    (hsz : ∀ p ∈ ps, p.cond.size ≤ 1000000) (apf : Nat → Bool) (hap : ∀ i (h : i < ps.length), apf i = (holdsF ps[i].cond d c [] && !(rows.getD i []).any apf)) (rk : Nat → Nat) (hrk : ∀ x, x < ps.length → ∀ y ∈ rows.getD x [], rk y < rk x) (N : Nat) (IH : ApOk w0 ab mk ps.length apf rk N) : ApOk w0 ab mk ps.length apf rk (N + 1) := by
  intro i W hN hi hk
  obtain ⟨pb, po, ak, ck, rv, rc, rfl, hri, hcond, hcells⟩ := E.cells (apf := apf) i hi
  obtain ⟨l, hmap, hl⟩ := hk.map
  have hlk := run_look_ok MapInt.key Tryz.underlying71 zero_bool hmap (i : Int)
  obtain ⟨s1, s2⟩ := (show mk < ab ∧ ab < w0.heap.size from ⟨E.mlt, E.alt⟩)
  have hcA2 : ∀ w', Kn w0 mk ab apf w' → w'.cell? ⟨ab, 2, none⟩ = some (.map (some mk)) := fun w' h => (World.cell?_of_block (a := ⟨ab, 2, none⟩) h.ask).trans E.a2
  have x2 := hcA2 W hk
  have HA2 := Lib.hid hcA2
  cases hlo : l.lookup (i : Int) with
  | some b =>
    rw [hlo] at hlk
    have HS := Lib.hid (hl i b hlo)
    have HK := Lib.hid hk
    clear hk hmap hl hcells hcond hri E hap IH hcA2 hlo
    go_enter Tryz.func29, Tryz.ntmps29
    go_wp2
    go_ret
    exact ⟨ret_bool HS.out, HK.out⟩
  | none =>
    rw [hlo] at hlk
    have hrv := SlIn.shape hri
    obtain ⟨_, _, e0, h5, h6, _⟩ := hrv
    rw [Value.slice.injEq] at e0
    obtain ⟨rfl, hx0, rfl⟩ := e0
    clear hx0
    rw [List.length_map] at h5
    have HH : Hid (∀ W, Kn w0 mk ab apf W → Calls Tryz.prog 20 #[.agg #[.int .i64 ps[i].cond.op, .string ps[i].cond.name, .int .i64 ps[i].cond.cmp, .int .i64 ps[i].cond.n, .slice ak ps[i].cond.kids.length ck], .agg #[.slice ad d.length cd], .slice ac c.length cc, .slice none 0 0] W fun e w' => e = .returned (.bool (holdsF ps[i].cond d c [])) ∧ Below W.heap.size W w') := by
      intro W h
      have hs := h.bel.size
      have hB := E.hB
      have hb := h.bel.mono hB
      exact holdsP_any ps[i].cond d c [] _ _ _ _ W B (hsz _ (List.getElem_mem _)) (by omega) (Fo.In.below hb _ _ hcond) (E.dom.below hb) (E.cas.below hb) ⟨none, 0, rfl, Nat.le_refl _, Nat.zero_le _, fun h => absurd rfl h⟩
    have HC : Hid (∀ W, Kn w0 mk ab apf W → Calls Tryz.prog 48 #[.slice rv (rows.getD i []).length rc, .func (.func 29) #[.pointer (some ⟨ab, 0, none⟩)] #[]] W fun e w' => e = .returned (.bool ((rows.getD i []).any apf)) ∧ Kn w0 mk ab apf w') := by
      intro W h
      have h9 := contFuncInt_any ((rows.getD i []).map fun x : Nat => (x : Int)) 29 (.pointer (some ⟨ab, 0, none⟩)) (fun x => apf x.toNat) (Kn w0 mk ab apf) mk rv rc W (enters_of Tryz.func29 (by kernel_rfl) rfl) h6 (by rw [List.length_map]; exact h5)
        (fun W' h' => by rw [List.length_map]; exact hri.below h'.bel)
        (fun W' x hx h' => by
          obtain ⟨y, hy, rfl⟩ := List.mem_map.1 hx
          have := hrk i hi y hy
          exact IH y W' (by omega) (E.rlt i y hy) h') h
      rw [List.length_map, List.any_map] at h9
      rw [show ((fun x : Int => apf x.toNat) ∘ fun x : Nat => (x : Int)) = apf from funext fun x => by simp] at h9
      exact h9
    have hv := hap i hi
    have HL := Lib.hid (show ∃ l, True from ⟨l, trivial⟩)
    have i0 : (0 : Int) ≤ (i : Int) := Int.natCast_nonneg _
    have i1 : (i : Int) < (ps.length : Int) := by omega
    have HCE := Lib.hid hcells
    have HK : Hid (Kn w0 mk ab apf W) := hk
    obtain ⟨c1, c2, c3, c4, c5, c6, c7, c8, c9, c10, c11⟩ := hcells W hk
    clear hmap hl hcells hcond hri E hap IH hcA2 hlo hk hrk hsz
    generalize holdsF ps[i].cond d c [] = hp at *
    generalize (rows.getD i []).any apf = an at *
    generalize (rows.getD i []).length = rl at *
    generalize ps[i].cond = f at *
    have KD : Hid (Kn w0 mk ab apf W.drew) := HK.out.drew s1 s2
    have HS := Lib.hid hv
    clear hv
    cases hp with
    | false =>
      go_enter Tryz.func29, Tryz.ntmps29
      go_upto_region 4 with (fail)
      go_cut [7] (fun x7 wx => x7 = .bool false ∧ Hid (Kn w0 mk ab apf wx))
      case first =>
        refine wp_region_held_drew (S := (fun w' => (w'.cell? ⟨ab, 0, none⟩ = some (.pointer (some ⟨nb, 0, none⟩)) ∧ w'.cell? ⟨ab, 1, none⟩ = some (.slice ac c.length cc) ∧ w'.cell? ⟨nb, 0, none⟩ = some (.slice ad d.length cd) ∧ w'.cell? ⟨nb, 1, none⟩ = some (.slice (some ⟨pb, po, none⟩) ps.length cp) ∧ w'.cell? ⟨nb, 4, none⟩ = some (.slice (some ⟨bb, 0, none⟩) ps.length ps.length) ∧ w'.cell? ⟨bb, i, none⟩ = some (.slice rv rl rc) ∧ w'.cell? ⟨pb, po + i * 23 + 5, none⟩ = some (.int .i64 f.op) ∧ w'.cell? ⟨pb, po + i * 23 + 6, none⟩ = some (.string f.name) ∧ w'.cell? ⟨pb, po + i * 23 + 7, none⟩ = some (.int .i64 f.cmp) ∧ w'.cell? ⟨pb, po + i * 23 + 8, none⟩ = some (.int .i64 f.n) ∧ w'.cell? ⟨pb, po + i * 23 + 9, none⟩ = some (.slice ak f.kids.length ck)) ∧ Hid (Kn w0 mk ab apf w'))) (by kernel_rfl) ⟨HCE.out _ KD.out, KD⟩ (fun hHeld => ?_)
        refine wpAnyH_take (i := 0) (oi := { dst := some 19, op := Go.Op.move (Go.Operand.tmp 0), type := 63, pos := "norm.go:106", after := #[], guard := none }) (v := ?v0) rfl (by kernel_rfl) (by kernel_rfl) (by kernel_rfl) (fun _ _ _ h => h) (Or.inl ⟨by rfl, ?y0⟩) (by assumption) ?_
        case y0 => (intro w hSw; (try dsimp only at hSw); go_simp; try with_reducible rfl)
        try simp only [Act.put, List.setIfInBounds_toArray, List.set_cons_zero, List.set_cons_succ]
        refine wpAnyH_take (i := 1) (oi := { dst := some 20, op := Go.Op.nilCheck (Go.Operand.tmp 19), type := 0, pos := "norm.go:106", after := #[{ on := 0, ground := Go.Ground.data }], guard := none }) (v := ?v1) rfl (by kernel_rfl) (by kernel_rfl) (by kernel_rfl) (fun _ _ _ h => h) (Or.inl ⟨by rfl, ?y1⟩) (by assumption) ?_
        case y1 => (intro w hSw; (try dsimp only at hSw); go_simp; try with_reducible rfl)
        try simp only [Act.put, List.setIfInBounds_toArray, List.set_cons_zero, List.set_cons_succ]
        refine wpAnyH_take (i := 2) (oi := { dst := some 21, op := Go.Op.fieldAddr 73 (Go.Operand.tmp 20) 0, type := 0, pos := "norm.go:106", after := #[{ on := 1, ground := Go.Ground.data }], guard := none }) (v := ?v2) rfl (by kernel_rfl) (by kernel_rfl) (by kernel_rfl) (fun _ _ _ h => h) (Or.inl ⟨by rfl, ?y2⟩) (by assumption) ?_
        case y2 => (intro w hSw; (try dsimp only at hSw); go_simp; try with_reducible rfl)
        try simp only [Act.put, List.setIfInBounds_toArray, List.set_cons_zero, List.set_cons_succ]
        refine wpAnyH_take (i := 3) (oi := { dst := some 22, op := Go.Op.load 70 (Go.Operand.tmp 21), type := 70, pos := "norm.go:106", after := #[{ on := 2, ground := Go.Ground.data }], guard := none }) (v := ?v3) rfl (by kernel_rfl) (by kernel_rfl) (by kernel_rfl) (fun _ _ _ h => h) (Or.inl ⟨by rfl, ?y3⟩) (by assumption) ?_
        case y3 => (intro w hSw; (try dsimp only at hSw); go_simp; try with_reducible rfl)
        try simp only [Act.put, List.setIfInBounds_toArray, List.set_cons_zero, List.set_cons_succ]
        refine wpAnyH_take (i := 4) (oi := { dst := some 23, op := Go.Op.nilCheck (Go.Operand.tmp 22), type := 0, pos := "norm.go:106", after := #[{ on := 3, ground := Go.Ground.data }], guard := none }) (v := ?v4) rfl (by kernel_rfl) (by kernel_rfl) (by kernel_rfl) (fun _ _ _ h => h) (Or.inl ⟨by rfl, ?y4⟩) (by assumption) ?_
        case y4 => (intro w hSw; (try dsimp only at hSw); go_simp; try with_reducible rfl)
        try simp only [Act.put, List.setIfInBounds_toArray, List.set_cons_zero, List.set_cons_succ]
        refine wpAnyH_take (i := 5) (oi := { dst := some 24, op := Go.Op.fieldAddr 77 (Go.Operand.tmp 23) 0, type := 0, pos := "norm.go:106", after := #[{ on := 4, ground := Go.Ground.data }], guard := none }) (v := ?v5) rfl (by kernel_rfl) (by kernel_rfl) (by kernel_rfl) (fun _ _ _ h => h) (Or.inl ⟨by rfl, ?y5⟩) (by assumption) ?_
        case y5 => (intro w hSw; (try dsimp only at hSw); go_simp; try with_reducible rfl)
        try simp only [Act.put, List.setIfInBounds_toArray, List.set_cons_zero, List.set_cons_succ]
        refine wpAnyH_take (i := 6) (oi := { dst := some 25, op := Go.Op.fieldAddr 28 (Go.Operand.tmp 24) 1, type := 0, pos := "norm.go:106", after := #[{ on := 5, ground := Go.Ground.data }], guard := none }) (v := ?v6) rfl (by kernel_rfl) (by kernel_rfl) (by kernel_rfl) (fun _ _ _ h => h) (Or.inl ⟨by rfl, ?y6⟩) (by assumption) ?_
        case y6 => (intro w hSw; (try dsimp only at hSw); go_simp; try with_reducible rfl)
        try simp only [Act.put, List.setIfInBounds_toArray, List.set_cons_zero, List.set_cons_succ]
        refine wpAnyH_take (i := 7) (oi := { dst := some 26, op := Go.Op.load 25 (Go.Operand.tmp 25), type := 25, pos := "norm.go:106", after := #[{ on := 6, ground := Go.Ground.data }], guard := none }) (v := ?v7) rfl (by kernel_rfl) (by kernel_rfl) (by kernel_rfl) (fun _ _ _ h => h) (Or.inl ⟨by rfl, ?y7⟩) (by assumption) ?_
        case y7 => (intro w hSw; (try dsimp only at hSw); go_simp; try with_reducible rfl)
        try simp only [Act.put, List.setIfInBounds_toArray, List.set_cons_zero, List.set_cons_succ]
        refine wpAnyH_take (i := 8) (oi := { dst := some 27, op := Go.Op.move (Go.Operand.tmp 1), type := 3, pos := "norm.go:106", after := #[], guard := none }) (v := ?v8) rfl (by kernel_rfl) (by kernel_rfl) (by kernel_rfl) (fun _ _ _ h => h) (Or.inl ⟨by rfl, ?y8⟩) (by assumption) ?_
        case y8 => (intro w hSw; (try dsimp only at hSw); go_simp; try with_reducible rfl)
        try simp only [Act.put, List.setIfInBounds_toArray, List.set_cons_zero, List.set_cons_succ]
        refine wpAnyH_take (i := 9) (oi := { dst := some 28, op := Go.Op.indexAddr 25 (Go.Operand.tmp 26) (Go.Operand.tmp 27), type := 0, pos := "norm.go:106", after := #[{ on := 7, ground := Go.Ground.data }, { on := 8, ground := Go.Ground.data }], guard := none }) (v := ?v9) rfl (by kernel_rfl) (by kernel_rfl) (by kernel_rfl) (fun _ _ _ h => h) (Or.inl ⟨by rfl, ?y9⟩) (by assumption) ?_
        case y9 => (intro w hSw; (try dsimp only at hSw); go_simp; try with_reducible rfl)
        try simp only [Act.put, List.setIfInBounds_toArray, List.set_cons_zero, List.set_cons_succ]
        refine wpAnyH_take (i := 10) (oi := { dst := some 29, op := Go.Op.fieldAddr 49 (Go.Operand.tmp 28) 5, type := 0, pos := "norm.go:106", after := #[{ on := 9, ground := Go.Ground.data }], guard := none }) (v := ?v10) rfl (by kernel_rfl) (by kernel_rfl) (by kernel_rfl) (fun _ _ _ h => h) (Or.inl ⟨by rfl, ?y10⟩) (by assumption) ?_
        case y10 => (intro w hSw; (try dsimp only at hSw); go_simp; try with_reducible rfl)
        try simp only [Act.put, List.setIfInBounds_toArray, List.set_cons_zero, List.set_cons_succ]
        refine wpAnyH_take (i := 11) (oi := { dst := some 30, op := Go.Op.load 44 (Go.Operand.tmp 29), type := 44, pos := "norm.go:106", after := #[{ on := 10, ground := Go.Ground.data }], guard := none }) (v := ?v11) rfl (by kernel_rfl) (by kernel_rfl) (by kernel_rfl) (fun _ _ _ h => h) (Or.inl ⟨by rfl, ?y11⟩) (by assumption) ?_
        case y11 => (intro w hSw; (try dsimp only at hSw); go_simp; try with_reducible rfl)
        try simp only [Act.put, List.setIfInBounds_toArray, List.set_cons_zero, List.set_cons_succ]
        refine wpAnyH_take (i := 12) (oi := { dst := some 31, op := Go.Op.move (Go.Operand.tmp 0), type := 63, pos := "norm.go:106", after := #[], guard := none }) (v := ?v12) rfl (by kernel_rfl) (by kernel_rfl) (by kernel_rfl) (fun _ _ _ h => h) (Or.inl ⟨by rfl, ?y12⟩) (by assumption) ?_
        case y12 => (intro w hSw; (try dsimp only at hSw); go_simp; try with_reducible rfl)
        try simp only [Act.put, List.setIfInBounds_toArray, List.set_cons_zero, List.set_cons_succ]
        refine wpAnyH_take (i := 13) (oi := { dst := some 32, op := Go.Op.nilCheck (Go.Operand.tmp 31), type := 0, pos := "norm.go:106", after := #[{ on := 12, ground := Go.Ground.data }], guard := none }) (v := ?v13) rfl (by kernel_rfl) (by kernel_rfl) (by kernel_rfl) (fun _ _ _ h => h) (Or.inl ⟨by rfl, ?y13⟩) (by assumption) ?_
        case y13 => (intro w hSw; (try dsimp only at hSw); go_simp; try with_reducible rfl)
        try simp only [Act.put, List.setIfInBounds_toArray, List.set_cons_zero, List.set_cons_succ]
        refine wpAnyH_take (i := 14) (oi := { dst := some 33, op := Go.Op.fieldAddr 73 (Go.Operand.tmp 32) 0, type := 0, pos := "norm.go:106", after := #[{ on := 13, ground := Go.Ground.data }], guard := none }) (v := ?v14) rfl (by kernel_rfl) (by kernel_rfl) (by kernel_rfl) (fun _ _ _ h => h) (Or.inl ⟨by rfl, ?y14⟩) (by assumption) ?_
        case y14 => (intro w hSw; (try dsimp only at hSw); go_simp; try with_reducible rfl)
        try simp only [Act.put, List.setIfInBounds_toArray, List.set_cons_zero, List.set_cons_succ]
        refine wpAnyH_take (i := 15) (oi := { dst := some 34, op := Go.Op.load 70 (Go.Operand.tmp 33), type := 70, pos := "norm.go:106", after := #[{ on := 14, ground := Go.Ground.data }], guard := none }) (v := ?v15) rfl (by kernel_rfl) (by kernel_rfl) (by kernel_rfl) (fun _ _ _ h => h) (Or.inl ⟨by rfl, ?y15⟩) (by assumption) ?_
        case y15 => (intro w hSw; (try dsimp only at hSw); go_simp; try with_reducible rfl)
        try simp only [Act.put, List.setIfInBounds_toArray, List.set_cons_zero, List.set_cons_succ]
        refine wpAnyH_take (i := 16) (oi := { dst := some 35, op := Go.Op.nilCheck (Go.Operand.tmp 34), type := 0, pos := "norm.go:106", after := #[{ on := 15, ground := Go.Ground.data }], guard := none }) (v := ?v16) rfl (by kernel_rfl) (by kernel_rfl) (by kernel_rfl) (fun _ _ _ h => h) (Or.inl ⟨by rfl, ?y16⟩) (by assumption) ?_
        case y16 => (intro w hSw; (try dsimp only at hSw); go_simp; try with_reducible rfl)
        try simp only [Act.put, List.setIfInBounds_toArray, List.set_cons_zero, List.set_cons_succ]
        refine wpAnyH_take (i := 17) (oi := { dst := some 36, op := Go.Op.fieldAddr 77 (Go.Operand.tmp 35) 0, type := 0, pos := "norm.go:106", after := #[{ on := 16, ground := Go.Ground.data }], guard := none }) (v := ?v17) rfl (by kernel_rfl) (by kernel_rfl) (by kernel_rfl) (fun _ _ _ h => h) (Or.inl ⟨by rfl, ?y17⟩) (by assumption) ?_
        case y17 => (intro w hSw; (try dsimp only at hSw); go_simp; try with_reducible rfl)
        try simp only [Act.put, List.setIfInBounds_toArray, List.set_cons_zero, List.set_cons_succ]
        refine wpAnyH_take (i := 18) (oi := { dst := some 37, op := Go.Op.fieldAddr 28 (Go.Operand.tmp 36) 0, type := 0, pos := "norm.go:106", after := #[{ on := 17, ground := Go.Ground.data }], guard := none }) (v := ?v18) rfl (by kernel_rfl) (by kernel_rfl) (by kernel_rfl) (fun _ _ _ h => h) (Or.inl ⟨by rfl, ?y18⟩) (by assumption) ?_
        case y18 => (intro w hSw; (try dsimp only at hSw); go_simp; try with_reducible rfl)
        try simp only [Act.put, List.setIfInBounds_toArray, List.set_cons_zero, List.set_cons_succ]
        refine wpAnyH_take (i := 19) (oi := { dst := some 38, op := Go.Op.load 24 (Go.Operand.tmp 37), type := 24, pos := "norm.go:106", after := #[{ on := 18, ground := Go.Ground.data }], guard := none }) (v := ?v19) rfl (by kernel_rfl) (by kernel_rfl) (by kernel_rfl) (fun _ _ _ h => h) (Or.inl ⟨by rfl, ?y19⟩) (by assumption) ?_
        case y19 => (intro w hSw; (try dsimp only at hSw); go_simp; try with_reducible rfl)
        try simp only [Act.put, List.setIfInBounds_toArray, List.set_cons_zero, List.set_cons_succ]
        refine wpAnyH_take (i := 20) (oi := { dst := some 39, op := Go.Op.move (Go.Operand.tmp 0), type := 63, pos := "norm.go:106", after := #[], guard := none }) (v := ?v20) rfl (by kernel_rfl) (by kernel_rfl) (by kernel_rfl) (fun _ _ _ h => h) (Or.inl ⟨by rfl, ?y20⟩) (by assumption) ?_
        case y20 => (intro w hSw; (try dsimp only at hSw); go_simp; try with_reducible rfl)
        try simp only [Act.put, List.setIfInBounds_toArray, List.set_cons_zero, List.set_cons_succ]
        refine wpAnyH_take (i := 21) (oi := { dst := some 40, op := Go.Op.nilCheck (Go.Operand.tmp 39), type := 0, pos := "norm.go:106", after := #[{ on := 20, ground := Go.Ground.data }], guard := none }) (v := ?v21) rfl (by kernel_rfl) (by kernel_rfl) (by kernel_rfl) (fun _ _ _ h => h) (Or.inl ⟨by rfl, ?y21⟩) (by assumption) ?_
        case y21 => (intro w hSw; (try dsimp only at hSw); go_simp; try with_reducible rfl)
        try simp only [Act.put, List.setIfInBounds_toArray, List.set_cons_zero, List.set_cons_succ]
        refine wpAnyH_take (i := 22) (oi := { dst := some 41, op := Go.Op.fieldAddr 73 (Go.Operand.tmp 40) 1, type := 0, pos := "norm.go:106", after := #[{ on := 21, ground := Go.Ground.data }], guard := none }) (v := ?v22) rfl (by kernel_rfl) (by kernel_rfl) (by kernel_rfl) (fun _ _ _ h => h) (Or.inl ⟨by rfl, ?y22⟩) (by assumption) ?_
        case y22 => (intro w hSw; (try dsimp only at hSw); go_simp; try with_reducible rfl)
        try simp only [Act.put, List.setIfInBounds_toArray, List.set_cons_zero, List.set_cons_succ]
        refine wpAnyH_take (i := 23) (oi := { dst := some 42, op := Go.Op.load 29 (Go.Operand.tmp 41), type := 29, pos := "norm.go:106", after := #[{ on := 22, ground := Go.Ground.data }], guard := none }) (v := ?v23) rfl (by kernel_rfl) (by kernel_rfl) (by kernel_rfl) (fun _ _ _ h => h) (Or.inl ⟨by rfl, ?y23⟩) (by assumption) ?_
        case y23 => (intro w hSw; (try dsimp only at hSw); go_simp; try with_reducible rfl)
        try simp only [Act.put, List.setIfInBounds_toArray, List.set_cons_zero, List.set_cons_succ]
        refine wpAnyH_ready (rs := [24]) (by kernel_rfl) (by simp) ?_
        refine AllReadyH.cons (o := { dst := some 43, op := Go.Op.call { callee := Go.Callee.value (Go.Operand.func 20), args := #[Go.Operand.tmp 30, Go.Operand.tmp 38, Go.Operand.tmp 42, Go.Operand.const (Go.Value.slice none 0 0)], argTypes := #[44, 24, 29, 32] }, type := 4, pos := "norm.go:106", after := #[{ on := 11, ground := Go.Ground.data }, { on := 19, ground := Go.Ground.data }, { on := 23, ground := Go.Ground.data }], guard := none }) rfl (fun K hK => ?_) AllReadyH.nil
        go_simp
        (go_at_call 20; refine (HH.out _ KD.out).mono ?_; rintro e w4 ⟨rfl, hb4⟩; have hkn : Hid (Kn w0 mk ab apf w4) := KD.out.below s1 s2 hb4)
        refine hK.out _ _ ?_ (fun hHeld => ?_)
        · exact ⟨HCE.out _ hkn.out, hkn⟩
        clear hK K
        try simp only [Act.put, List.setIfInBounds_toArray, List.set_cons_zero, List.set_cons_succ]
        refine wpAnyH_take (i := 25) (oi := { dst := some 44, op := Go.Op.move (Go.Operand.tmp 43), type := 4, pos := "norm.go:106", after := #[{ on := 24, ground := Go.Ground.data }, { on := 24, ground := Go.Ground.chain }], guard := none }) (v := ?v25) rfl (by kernel_rfl) (by kernel_rfl) (by kernel_rfl) (fun _ _ _ h => h) (Or.inl ⟨by rfl, ?y25⟩) (by assumption) ?_
        case y25 => (intro w hSw; (try dsimp only at hSw); go_simp; try with_reducible rfl)
        try simp only [Act.put, List.setIfInBounds_toArray, List.set_cons_zero, List.set_cons_succ]
        refine wpAnyH_take (i := 26) (oi := { dst := some 45, op := Go.Op.move (Go.Operand.tmp 0), type := 63, pos := "norm.go:106", after := #[{ on := 25, ground := Go.Ground.guard }], guard := some (25, true) }) (v := undef) rfl (by kernel_rfl) (by kernel_rfl) (by kernel_rfl) (fun _ _ _ h => h) (Or.inr ⟨by rfl, rfl⟩) (by assumption) ?_
        try simp only [Act.put, List.setIfInBounds_toArray, List.set_cons_zero, List.set_cons_succ]
        refine wpAnyH_take (i := 27) (oi := { dst := some 46, op := Go.Op.nilCheck (Go.Operand.tmp 45), type := 0, pos := "norm.go:106", after := #[{ on := 26, ground := Go.Ground.data }, { on := 25, ground := Go.Ground.guard }], guard := some (25, true) }) (v := undef) rfl (by kernel_rfl) (by kernel_rfl) (by kernel_rfl) (fun _ _ _ h => h) (Or.inr ⟨by rfl, rfl⟩) (by assumption) ?_
        try simp only [Act.put, List.setIfInBounds_toArray, List.set_cons_zero, List.set_cons_succ]
        refine wpAnyH_take (i := 28) (oi := { dst := some 47, op := Go.Op.fieldAddr 73 (Go.Operand.tmp 46) 0, type := 0, pos := "norm.go:106", after := #[{ on := 27, ground := Go.Ground.data }, { on := 25, ground := Go.Ground.guard }], guard := some (25, true) }) (v := undef) rfl (by kernel_rfl) (by kernel_rfl) (by kernel_rfl) (fun _ _ _ h => h) (Or.inr ⟨by rfl, rfl⟩) (by assumption) ?_
        try simp only [Act.put, List.setIfInBounds_toArray, List.set_cons_zero, List.set_cons_succ]
        refine wpAnyH_take (i := 29) (oi := { dst := some 48, op := Go.Op.load 70 (Go.Operand.tmp 47), type := 70, pos := "norm.go:106", after := #[{ on := 28, ground := Go.Ground.data }, { on := 25, ground := Go.Ground.guard }], guard := some (25, true) }) (v := undef) rfl (by kernel_rfl) (by kernel_rfl) (by kernel_rfl) (fun _ _ _ h => h) (Or.inr ⟨by rfl, rfl⟩) (by assumption) ?_
        try simp only [Act.put, List.setIfInBounds_toArray, List.set_cons_zero, List.set_cons_succ]
        refine wpAnyH_take (i := 30) (oi := { dst := some 49, op := Go.Op.nilCheck (Go.Operand.tmp 48), type := 0, pos := "norm.go:106", after := #[{ on := 29, ground := Go.Ground.data }, { on := 25, ground := Go.Ground.guard }], guard := some (25, true) }) (v := undef) rfl (by kernel_rfl) (by kernel_rfl) (by kernel_rfl) (fun _ _ _ h => h) (Or.inr ⟨by rfl, rfl⟩) (by assumption) ?_
        try simp only [Act.put, List.setIfInBounds_toArray, List.set_cons_zero, List.set_cons_succ]
        refine wpAnyH_take (i := 31) (oi := { dst := some 50, op := Go.Op.fieldAddr 77 (Go.Operand.tmp 49) 2, type := 0, pos := "norm.go:106", after := #[{ on := 30, ground := Go.Ground.data }, { on := 25, ground := Go.Ground.guard }], guard := some (25, true) }) (v := undef) rfl (by kernel_rfl) (by kernel_rfl) (by kernel_rfl) (fun _ _ _ h => h) (Or.inr ⟨by rfl, rfl⟩) (by assumption) ?_
        try simp only [Act.put, List.setIfInBounds_toArray, List.set_cons_zero, List.set_cons_succ]
        refine wpAnyH_take (i := 32) (oi := { dst := some 51, op := Go.Op.load 75 (Go.Operand.tmp 50), type := 75, pos := "norm.go:106", after := #[{ on := 31, ground := Go.Ground.data }, { on := 25, ground := Go.Ground.guard }], guard := some (25, true) }) (v := undef) rfl (by kernel_rfl) (by kernel_rfl) (by kernel_rfl) (fun _ _ _ h => h) (Or.inr ⟨by rfl, rfl⟩) (by assumption) ?_
        try simp only [Act.put, List.setIfInBounds_toArray, List.set_cons_zero, List.set_cons_succ]
        refine wpAnyH_take (i := 33) (oi := { dst := some 52, op := Go.Op.move (Go.Operand.tmp 1), type := 3, pos := "norm.go:106", after := #[{ on := 25, ground := Go.Ground.guard }], guard := some (25, true) }) (v := undef) rfl (by kernel_rfl) (by kernel_rfl) (by kernel_rfl) (fun _ _ _ h => h) (Or.inr ⟨by rfl, rfl⟩) (by assumption) ?_
        try simp only [Act.put, List.setIfInBounds_toArray, List.set_cons_zero, List.set_cons_succ]
        refine wpAnyH_take (i := 34) (oi := { dst := some 53, op := Go.Op.indexAddr 75 (Go.Operand.tmp 51) (Go.Operand.tmp 52), type := 0, pos := "norm.go:106", after := #[{ on := 32, ground := Go.Ground.data }, { on := 33, ground := Go.Ground.data }, { on := 25, ground := Go.Ground.guard }], guard := some (25, true) }) (v := undef) rfl (by kernel_rfl) (by kernel_rfl) (by kernel_rfl) (fun _ _ _ h => h) (Or.inr ⟨by rfl, rfl⟩) (by assumption) ?_
        try simp only [Act.put, List.setIfInBounds_toArray, List.set_cons_zero, List.set_cons_succ]
        refine wpAnyH_take (i := 35) (oi := { dst := some 54, op := Go.Op.load 26 (Go.Operand.tmp 53), type := 26, pos := "norm.go:106", after := #[{ on := 34, ground := Go.Ground.data }, { on := 25, ground := Go.Ground.guard }], guard := some (25, true) }) (v := undef) rfl (by kernel_rfl) (by kernel_rfl) (by kernel_rfl) (fun _ _ _ h => h) (Or.inr ⟨by rfl, rfl⟩) (by assumption) ?_
        try simp only [Act.put, List.setIfInBounds_toArray, List.set_cons_zero, List.set_cons_succ]
        refine wpAnyH_take (i := 36) (oi := { dst := some 55, op := Go.Op.move (Go.Operand.tmp 0), type := 63, pos := "norm.go:106", after := #[{ on := 25, ground := Go.Ground.guard }], guard := some (25, true) }) (v := undef) rfl (by kernel_rfl) (by kernel_rfl) (by kernel_rfl) (fun _ _ _ h => h) (Or.inr ⟨by rfl, rfl⟩) (by assumption) ?_
        try simp only [Act.put, List.setIfInBounds_toArray, List.set_cons_zero, List.set_cons_succ]
        refine wpAnyH_take (i := 37) (oi := { dst := some 56, op := Go.Op.makeFunc (Go.Fn.func 29) #[Go.Operand.tmp 55] #[], type := 66, pos := "norm.go:106", after := #[{ on := 36, ground := Go.Ground.data }, { on := 25, ground := Go.Ground.guard }], guard := some (25, true) }) (v := undef) rfl (by kernel_rfl) (by kernel_rfl) (by kernel_rfl) (fun _ _ _ h => h) (Or.inr ⟨by rfl, rfl⟩) (by assumption) ?_
        try simp only [Act.put, List.setIfInBounds_toArray, List.set_cons_zero, List.set_cons_succ]
        refine wpAnyH_take (i := 38) (oi := { dst := some 57, op := Go.Op.call { callee := Go.Callee.value (Go.Operand.func 48), args := #[Go.Operand.tmp 54, Go.Operand.tmp 56], argTypes := #[26, 66] }, type := 4, pos := "norm.go:106", after := #[{ on := 35, ground := Go.Ground.data }, { on := 37, ground := Go.Ground.data }, { on := 25, ground := Go.Ground.chain }, { on := 25, ground := Go.Ground.guard }], guard := some (25, true) }) (v := undef) rfl (by kernel_rfl) (by kernel_rfl) (by kernel_rfl) (fun _ _ _ h => h) (Or.inr ⟨by rfl, rfl⟩) (by assumption) ?_
        try simp only [Act.put, List.setIfInBounds_toArray, List.set_cons_zero, List.set_cons_succ]
        refine wpAnyH_take (i := 39) (oi := { dst := some 58, op := Go.Op.unOp Go.UnOp.not 4 (Go.Operand.tmp 57), type := 4, pos := "norm.go:106", after := #[{ on := 38, ground := Go.Ground.data }, { on := 25, ground := Go.Ground.guard }], guard := some (25, true) }) (v := undef) rfl (by kernel_rfl) (by kernel_rfl) (by kernel_rfl) (fun _ _ _ h => h) (Or.inr ⟨by rfl, rfl⟩) (by assumption) ?_
        try simp only [Act.put, List.setIfInBounds_toArray, List.set_cons_zero, List.set_cons_succ]
        refine wpAnyH_take (i := 40) (oi := { dst := some 59, op := Go.Op.pick (Go.Operand.tmp 44) (Go.Operand.tmp 58) (Go.Operand.const (Go.Value.bool false)), type := 4, pos := "norm.go:106", after := #[{ on := 25, ground := Go.Ground.data }, { on := 39, ground := Go.Ground.data }], guard := none }) (v := ?v40) rfl (by kernel_rfl) (by kernel_rfl) (by kernel_rfl) (fun _ _ _ h => h) (Or.inl ⟨by rfl, ?y40⟩) (by assumption) ?_
        case y40 => (intro w hSw; (try dsimp only at hSw); go_simp; try with_reducible rfl)
        try simp only [Act.put, List.setIfInBounds_toArray, List.set_cons_zero, List.set_cons_succ]
        refine wpAnyH_take (i := 41) (oi := { dst := some 7, op := Go.Op.assign (Go.Operand.tmp 59), type := 4, pos := "norm.go:106", after := #[{ on := 40, ground := Go.Ground.data }, { on := 38, ground := Go.Ground.chain }, { on := 0, ground := Go.Ground.phase }, { on := 1, ground := Go.Ground.phase }, { on := 2, ground := Go.Ground.phase }, { on := 3, ground := Go.Ground.phase }, { on := 4, ground := Go.Ground.phase }, { on := 5, ground := Go.Ground.phase }, { on := 6, ground := Go.Ground.phase }, { on := 7, ground := Go.Ground.phase }, { on := 8, ground := Go.Ground.phase }, { on := 9, ground := Go.Ground.phase }, { on := 10, ground := Go.Ground.phase }, { on := 11, ground := Go.Ground.phase }, { on := 12, ground := Go.Ground.phase }, { on := 13, ground := Go.Ground.phase }, { on := 14, ground := Go.Ground.phase }, { on := 15, ground := Go.Ground.phase }, { on := 16, ground := Go.Ground.phase }, { on := 17, ground := Go.Ground.phase }, { on := 18, ground := Go.Ground.phase }, { on := 19, ground := Go.Ground.phase }, { on := 20, ground := Go.Ground.phase }, { on := 21, ground := Go.Ground.phase }, { on := 22, ground := Go.Ground.phase }, { on := 23, ground := Go.Ground.phase }, { on := 24, ground := Go.Ground.phase }, { on := 25, ground := Go.Ground.phase }, { on := 26, ground := Go.Ground.phase }, { on := 27, ground := Go.Ground.phase }, { on := 28, ground := Go.Ground.phase }, { on := 29, ground := Go.Ground.phase }, { on := 30, ground := Go.Ground.phase }, { on := 31, ground := Go.Ground.phase }, { on := 32, ground := Go.Ground.phase }, { on := 33, ground := Go.Ground.phase }, { on := 34, ground := Go.Ground.phase }, { on := 35, ground := Go.Ground.phase }, { on := 36, ground := Go.Ground.phase }, { on := 37, ground := Go.Ground.phase }, { on := 38, ground := Go.Ground.phase }, { on := 39, ground := Go.Ground.phase }, { on := 40, ground := Go.Ground.phase }], guard := none }) (v := ?v41) rfl (by kernel_rfl) (by kernel_rfl) (by kernel_rfl) (fun _ _ _ h => h) (Or.inl ⟨by rfl, ?y41⟩) (by assumption) ?_
        case y41 => (intro w hSw; (try dsimp only at hSw); go_simp; try with_reducible rfl)
        try simp only [Act.put, List.setIfInBounds_toArray, List.set_cons_zero, List.set_cons_succ]
        refine wpAnyH_done (by kernel_rfl) ?_ _
        go_wp2
        go_meet
        exact ⟨rfl, hkn⟩
      case rest =>
        obtain ⟨rfl, hk4⟩ := hcut
        obtain ⟨l4, hm4, hl4⟩ := hk4.out.map
        have y2 := HA2.out _ hk4.out
        obtain ⟨w5, hrun, hm5, hu5⟩ := run_store MapInt.key Tryz.underlying71 hm4 (i : Int) false
        have HK5 := Lib.hid (hk4.out.put s1 hl4 i _ (by rw [HS.out]; rfl) hm5 hu5)
        clear hm4 hl4 hm5 hu5 hk4
        go_wp2
        go_ret
        exact ⟨ret_bool (by rw [HS.out]; rfl), HK5.out⟩
    | true =>
      go_enter Tryz.func29, Tryz.ntmps29
      go_upto_region 4 with (fail)
      go_cut [7] (fun x7 wx => x7 = .bool (!an) ∧ Hid (Kn w0 mk ab apf wx))
      case first =>
        go_region_held3 (fun w' => (w'.cell? ⟨ab, 0, none⟩ = some (.pointer (some ⟨nb, 0, none⟩)) ∧ w'.cell? ⟨ab, 1, none⟩ = some (.slice ac c.length cc) ∧ w'.cell? ⟨nb, 0, none⟩ = some (.slice ad d.length cd) ∧ w'.cell? ⟨nb, 1, none⟩ = some (.slice (some ⟨pb, po, none⟩) ps.length cp) ∧ w'.cell? ⟨nb, 4, none⟩ = some (.slice (some ⟨bb, 0, none⟩) ps.length ps.length) ∧ w'.cell? ⟨bb, i, none⟩ = some (.slice rv rl rc) ∧ w'.cell? ⟨pb, po + i * 23 + 5, none⟩ = some (.int .i64 f.op) ∧ w'.cell? ⟨pb, po + i * 23 + 6, none⟩ = some (.string f.name) ∧ w'.cell? ⟨pb, po + i * 23 + 7, none⟩ = some (.int .i64 f.cmp) ∧ w'.cell? ⟨pb, po + i * 23 + 8, none⟩ = some (.int .i64 f.n) ∧ w'.cell? ⟨pb, po + i * 23 + 9, none⟩ = some (.slice ak f.kids.length ck)) ∧ Hid (Kn w0 mk ab apf w'))
          (first
            | exact ⟨HCE.out _ KD.out, KD⟩
            | exact ⟨HCE.out _ hkn.out, hkn⟩
            | exact ⟨HCE.out _ hk5.out, hk5⟩)
          (first
            | (go_at_call 20; refine (HH.out _ KD.out).mono ?_; rintro e w4 ⟨rfl, hb4⟩; have hkn : Hid (Kn w0 mk ab apf w4) := KD.out.below s1 s2 hb4)
            | (go_at_call 48; refine (HC.out _ hkn.out).mono ?_; rintro e w5 ⟨rfl, hk5'⟩; have hk5 := Lib.hid hk5'; clear hk5'))
        go_wp2
        go_meet
        exact ⟨rfl, hk5⟩
      case rest =>
        obtain ⟨rfl, hk4⟩ := hcut
        obtain ⟨l4, hm4, hl4⟩ := hk4.out.map
        have y2 := HA2.out _ hk4.out
        obtain ⟨w5, hrun, hm5, hu5⟩ := run_store MapInt.key Tryz.underlying71 hm4 (i : Int) (!an)
        have HK5 := Lib.hid (hk4.out.put s1 hl4 i _ (by rw [HS.out]; rfl) hm5 hu5)
        clear hm4 hl4 hm5 hu5 hk4
        go_wp2
        go_ret
        exact ⟨ret_bool (by rw [HS.out]; rfl), HK5.out⟩

/-- whether the condition of provision i holds -/
def hldB (d : List Fa) (ps : List Pv) (c : List Int) (i : Nat) : Bool := match ps[i]? with | some p => holdsF p.cond d c [] | none => false
/-- whether provision i applies -/
def apA (d : List Fa) (ps : List Pv) (c : List Int) (rows : List (List Nat)) (i : Nat) : Bool := apC (hldB d ps c) rows ps.length i

theorem apA_eq {d : List Fa} {ps : List Pv} {c : List Int} {rows : List (List Nat)} (hl : ∀ k, ∀ x ∈ rows.getD k [], x < ps.length) (hc : circS (eB (edg rows)) ps.length = []) (i : Nat) (hi : i < ps.length) :
    apA d ps c rows i = (holdsF ps[i].cond d c [] && !(rows.getD i []).any (apA d ps c rows)) := by
  obtain ⟨rk, h1, h2⟩ := rank_le (G := edg rows) hl hc
  have h := apC_eq (h := hldB d ps c) hl rk h1 h2 i hi
  unfold apA
  rw [h]
  have : hldB d ps c i = holdsF ps[i].cond d c [] := by unfold hldB; rw [List.getElem?_eq_getElem hi]
  rw [this]

theorem applies_any (w0 : World) (B ab nb bb mk : Nat) (d : List Fa) (ps : List Pv) (c : List Int) (rows : List (List Nat)) (ad : Option Addr) (cd : Nat) (ap : Option Addr) (cp : Nat) (ac : Option Addr) (cc : Nat) (E : AEnv w0 B ab nb bb mk d ps c rows ad cd ap cp ac cc)
    (hsz : ∀ p ∈ ps, p.cond.size ≤ 1000000) (hc : circS (eB (edg rows)) ps.length = []) (i : Nat) (W : World) (hi : i < ps.length) (hk : Kn w0 mk ab (apA d ps c rows) W) :
    Calls Tryz.prog 29 #[.pointer (some ⟨ab, 0, none⟩), .int .i64 (i : Int)] W fun e w' => e = .returned (.bool (apA d ps c rows i)) ∧ Kn w0 mk ab (apA d ps c rows) w' := by
  obtain ⟨rk, h1, h2⟩ := rank_le (G := edg rows) E.rlt hc
  have all : ∀ N, ApOk w0 ab mk ps.length (apA d ps c rows) rk N := fun N => by
    induction N with
    | zero => intro i W h; omega
    | succ N ih => exact applies_step w0 B ab nb bb mk d ps c rows ad cd ap cp ac cc E hsz _ (fun i hi => apA_eq E.rlt hc i hi) rk h2 N ih
  exact all (rk i + 1) i W (by omega) hi hk

end Go.Proofs.YtihpoecdnchioaaGreatDoor
