/- slices.SortFunc at the groups that were found: by their first members. A bound on the length. -/
import Derived.Test.YtihpoecdnchioaaGreatDoorSort
import Derived.BigQuiet
namespace Go.Proofs.YtihpoecdnchioaaGreatDoor
open Go.RowKit Go.Sort Tj

/-- a group that was found: a row of the call's own -/
structure El (w : World) (base : Nat) where
  v : Value
  l : List Int
  own : w.ownsRow base 3 1 v l.length (l.map iV)
  ne : l ≠ []
  bd : ∀ x ∈ l, 0 ≤ x ∧ x ≤ 1000

def hd (l : List Int) : Int := l.head?.getD 0
theorem hd_bd {l : List Int} (hne : l ≠ []) (h : ∀ x ∈ l, 0 ≤ x ∧ x ≤ 1000) : 0 ≤ hd l ∧ hd l ≤ 1000 := by
  cases l with
  | nil => exact absurd rfl hne
  | cons a m => exact h a (by simp)

theorem El.form {w : World} {base : Nat} (e : El w base) : ∃ g c, e.v = .slice (some ⟨g, 0, none⟩) e.l.length c ∧ g < w.heap.size ∧ w.cell? ⟨g, 0, none⟩ = some (.int .i64 (hd e.l)) ∧ 0 < e.l.length := by
  have hpos := List.length_pos_iff.2 e.ne
  obtain ⟨g, cap, hv, _, hlt, _, _, _, hH⟩ := Lib.holds_of_ownsRow (enc := Value.int .i64) e.own (by
    intro hv
    have h := e.own
    rw [hv] at h
    rcases h.2 with ⟨_, h0⟩ | ⟨g, cap, cur, h0, _⟩
    · omega
    · cases h0)
  refine ⟨g, cap, hv, hlt, ?_, hpos⟩
  have h := (hH 0 (by simpa using hpos)).1
  rw [h]
  congr 2
  unfold hd
  cases hl : e.l with
  | nil => exact absurd hl e.ne
  | cons a m => simp

def cfG {w : World} {base : Nat} (x y : El w base) : Int := hd x.l - hd y.l
theorem cfG_swo (w : World) (base : Nat) : SWO (ltOf (cfG (w := w) (base := base))) :=
  have e : ∀ x y : El w base, ltOf cfG x y = decide (hd x.l - hd y.l < 0) := fun _ _ => rfl
  ⟨fun x => by rw [e]; simp, fun x y z h1 h2 => by simp only [e, decide_eq_true_eq] at *; omega, fun x y z h1 h2 => by simp only [e, decide_eq_false_iff_not] at *; omega⟩

set_option maxRecDepth 100000 in
theorem cmp_any (W : World) (b1 b2 n1 n2 c1 c2 : Nat) (x y : Int) (h1 : W.cell? ⟨b1, 0, none⟩ = some (.int .i64 x)) (h2 : W.cell? ⟨b2, 0, none⟩ = some (.int .i64 y)) (hn1 : 0 < n1) (hn2 : 0 < n2) (hx : 0 ≤ x ∧ x ≤ 1000) (hy : 0 ≤ y ∧ y ≤ 1000) :
    Calls Tryz.prog 58 #[.slice (some ⟨b1, 0, none⟩) n1 c1, .slice (some ⟨b2, 0, none⟩) n2 c2] W fun e w' => e = .returned (.int .i64 (x - y)) ∧ ∃ q, w' = W.drewN q := by
  have p1 : (0 : Int) < (n1 : Int) := by omega
  have p2 : (0 : Int) < (n2 : Int) := by omega
  obtain ⟨hx0, hx1⟩ := hx
  obtain ⟨hy0, hy1⟩ := hy
  go_enter Tryz.func58, Tryz.ntmps58
  go_upto_region 1 with (fail)
  go_quiet (fail)
  go_wp2
  go_ret
  exact ⟨by go_num, _, rfl⟩

theorem cmp_reads (w : World) (base g size : Nat) [Inhabited (El w base)] (hg : ∀ e : El w base, e.v.ownBlock ≠ some g) : CmpReads Tryz.prog 58 #[] (El.v (w := w) (base := base)) cfG g 0 size w := by
  intro m os dk _ x y
  obtain ⟨b1, c1, e1, l1, k1, n1⟩ := x.form
  obtain ⟨b2, c2, e2, l2, k2, n2⟩ := y.form
  have hb1 : b1 ≠ g := fun e => hg x (by rw [e1, e]; rfl)
  have hb2 : b2 ≠ g := fun e => hg y (by rw [e2, e]; rfl)
  have hc : ∀ b z, b < w.heap.size → b ≠ g → w.cell? ⟨b, 0, none⟩ = some z → (sortWorld El.v w g 0 m dk os).cell? ⟨b, 0, none⟩ = some z := fun b z hb hne h => by
    have G1 := (grown_putRow El.v w m g dk).block b hb (by simpa using hne)
    have G2 := (grown_grow (putRow El.v (Sort.ahead w m) g 0 dk) os).block b (Nat.lt_of_lt_of_le hb (grown_putRow El.v w m g dk).size) (by simp)
    unfold sortWorld
    unfold World.cell? at h ⊢
    rw [G2, G1]
    exact h
  have h := cmp_any (sortWorld El.v w g 0 m dk os) b1 b2 _ _ c1 c2 _ _ (hc _ _ l1 hb1 k1) (hc _ _ l2 hb2 k2) n1 n2 (hd_bd x.ne x.bd) (hd_bd y.ne y.bd)
  rw [← e1, ← e2] at h
  exact h

theorem sortG_any {w : World} {base : Nat} (els : List (El w base)) (g cc : Nat) (hne : els ≠ []) (hsz : els.length ≤ 100000) (h : w.ownsRow base 26 1 (.slice (some ⟨g, 0, none⟩) els.length cc) els.length (els.map El.v)) :
    Calls Tryz.prog 57 #[.slice (some ⟨g, 0, none⟩) els.length cc, .func (.func 58) #[] #[]] w fun e w' => e = .returned (.tuple #[]) ∧
      ∃ els' : List (El w base), els'.Perm els ∧ els'.Pairwise (fun a b => hd a.l ≤ hd b.l) ∧ w'.ownsRow base 26 1 (.slice (some ⟨g, 0, none⟩) els.length cc) els.length (els'.map El.v) ∧ w.grownBy w' (some g) := by
  cases els with
  | nil => exact absurd rfl hne
  | cons a0 m0 =>
    haveI : Inhabited (El w base) := ⟨a0⟩
    generalize he : a0 :: m0 = els at *
    obtain ⟨g', cap', e, hb, hlt, h1, h2, h3, hH⟩ := Lib.holds_of_ownsRow (enc := El.v (w := w) (base := base)) h (by simp)
    cases e
    have eg : ∀ args w, (callFunc 58 args).run Tryz.prog w = .ok (.enter 58 args) w := enters_of Tryz.func58 (by kernel_rfl) rfl
    have hg : ∀ e : El w base, e.v.ownBlock ≠ some g := fun e he => by
      rcases own_types e.own h (by decide) with h5 | h5
      · rw [he] at h5; cases h5
      · exact h5 (by rw [he]; rfl)
    have hcon := Tryz.slices_SortFunc (El.v (w := w) (base := base)) (fun e => by obtain ⟨b, c, hv, _⟩ := e.form; rw [hv]; rfl) cfG (cfG_swo w base) 58 #[] g 0 cc els.toArray w eg (cmp_reads w base g _ hg).lays hH hlt (by simp; omega)
    rw [List.size_toArray] at hcon
    refine hcon.mono ?_
    rintro e w' ⟨rfl, d', n, os, hp, hs, rfl⟩
    obtain ⟨hp1, _, hp2⟩ := hp
    rw [List.size_toArray] at hp1
    have hdl : d'.toList.length = els.length := by rw [Array.length_toList]; exact hp1
    have h4 := Lib.ownsRow_putRow (enc := El.v (w := w) (base := base)) (q := n) (k := els.length) h hdl (Nat.le_refl _)
    rw [List.take_of_length_le (by omega), Array.toArray_toList] at h4
    refine ⟨rfl, d'.toList, ?_, ?_, h4.kept (grown_grow _ os) (.inr (by simp [Value.ownBlock])), ?_⟩
    · have x1 : (d'.extract 0 els.length).toList = d'.toList := by rw [show els.length = d'.size from hdl.symm]; simp
      have x2 : (els.toArray.extract 0 els.length).toList = els := by simp
      rw [x1, x2] at hp2
      exact hp2
    · rw [List.pairwise_iff_getElem]
      intro i j hi hj hij
      have h5 := hs i j (Nat.zero_le _) hij (by omega)
      rw [getElem!_pos d' j (by rw [← Array.length_toList]; exact hj), getElem!_pos d' i (by rw [← Array.length_toList]; exact hi)] at h5
      have h6 := of_decide_eq_false h5
      unfold cfG at h6
      show hd (d'.toList[i]).l ≤ hd (d'.toList[j]).l
      rw [Array.getElem_toList, Array.getElem_toList]
      omega
    · have g1 := grown_putRow (El.v (w := w) (base := base)) w n g d'
      have g2 := grown_grow (putRow (El.v (w := w) (base := base)) (Sort.ahead w n) g 0 d') os
      exact ⟨g2.os.trans g1.os, g2.tape.trans g1.tape, g2.output.trans g1.output, Nat.le_trans g1.size g2.size, fun k hk hne => (g2.block k (Nat.lt_of_lt_of_le hk g1.size) (by simp)).trans (g1.block k hk hne)⟩

end Go.Proofs.YtihpoecdnchioaaGreatDoor
