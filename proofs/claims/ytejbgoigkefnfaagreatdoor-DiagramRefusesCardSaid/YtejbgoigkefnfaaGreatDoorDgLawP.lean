/- The walk of pair: the diagrams of two formulas. No conditions. -/
import Derived.Test.YtejbgoigkefnfaaGreatDoorDgSm
import Derived.Test.YtejbgoigkefnfaaGreatDoorHoldsA
import Derived.Test.YtejbgoigkefnfaaGreatDoorFactA
namespace Go.Proofs.YtejbgoigkefnfaaGreatDoor
open Go.RowKit

/-- the world of a law's walk: it lies over the call's, and the library's table is there -/
structure LwS (w0 W : World) : Prop where
  low : Below w0.heap.size w0 W
  tab : TabH W.heap.size W
theorem LwS.step {w0 W W' : World} (h : LwS w0 W) (hb : Below W.heap.size W W') : LwS w0 W' := ⟨h.low.trans (hb.mono h.low.size), fun w' h' => h.tab w' (hb.trans (h'.mono hb.size))⟩
theorem lws_new {w : World} (hT : TabH w.heap.size w) : LwS w w := ⟨Below.refl _ _, hT⟩

/-- a variable that holds a formula -/
structure LwF (W : World) (b : Nat) (f : Fo) (a : Option Addr) (c : Nat) : Prop where
  box : Blk W b 24 #[.int .i64 f.op, .string f.name, .int .i64 f.cmp, .int .i64 f.n, .slice a f.kids.length c]
  fo : f.In W W.heap.size (.agg #[.int .i64 f.op, .string f.name, .int .i64 f.cmp, .int .i64 f.n, .slice a f.kids.length c])
theorem LwF.step {W W' : World} {b : Nat} {f : Fo} {a : Option Addr} {c : Nat} (h : LwF W b f a c) (hb : Below W.heap.size W W') : LwF W' b f a c := ⟨h.box.below hb, (Fo.In.below hb _ _ h.fo).mono hb.size⟩

/-- a variable that holds a domain -/
structure LwD (W : World) (b : Nat) (d : List Fa) (a : Option Addr) (c : Nat) : Prop where
  box : Blk W b 27 #[.slice a d.length c]
  dom : DomIn W W.heap.size d (.agg #[.slice a d.length c])
theorem LwD.step {W W' : World} {b : Nat} {d : List Fa} {a : Option Addr} {c : Nat} (h : LwD W b d a c) (hb : Below W.heap.size W W') : LwD W' b d a c := ⟨h.box.below hb, (h.dom.below hb).mono hb.size⟩

/-- a case -/
abbrev LwC (W : World) (l : List Int) (v : Value) : Prop := IntsIn W W.heap.size l v
theorem lwc_step {W W' : World} {l : List Int} {v : Value} (h : LwC W l v) (hb : Below W.heap.size W W') : LwC W' l v := SlIn.mono (OneR.mono _) hb.size (IntsIn.below hb h)

theorem lw_then {W w w' : World} (h : Hid (Below W.heap.size W w)) (h' : Below w.heap.size w w') : Hid (Below W.heap.size W w') := h.out.trans (h'.mono h.out.size)

section
variable {w0 W w : World} {f h : Fo} {d : List Fa} {t u : List Dn} {l m : List Int} {b b' b'' : Nat} {a a' a'' : Option Addr} {c c' c'' : Nat} {v v' : Value}

theorem lw_head (HE : Hid (LwS w0 W)) (hW : Hid (Below W.heap.size W w)) : Calls Tryz.prog 10 #[] w fun e w' => e = .returned (.bool true) ∧ Hid (Below W.heap.size W w') := by
  refine (head_any w (HE.out.step hW.out).tab).mono ?_
  rintro e w' ⟨rfl, h2⟩
  exact ⟨rfl, lw_then hW h2⟩
theorem lw_small (HF : Hid (LwF W b f a c)) (HD : Hid (LwD W b' d a' c')) (hW : Hid (Below W.heap.size W w)) :
    Calls Tryz.prog 11 #[.agg #[.int .i64 f.op, .string f.name, .int .i64 f.cmp, .int .i64 f.n, .slice a f.kids.length c], .agg #[.slice a' d.length c']] w fun e w' => e = .returned (.bool (smallB f d)) ∧ Hid (Below W.heap.size W w') := by
  refine (smallD_any f d _ _ w w.heap.size (Nat.le_refl _) (HF.out.step hW.out).fo (HD.out.step hW.out).dom).mono ?_
  rintro e w' ⟨rfl, h2⟩
  exact ⟨rfl, lw_then hW h2⟩
theorem lw_build (HE : Hid (LwS w0 W)) (HF : Hid (LwF W b f a c)) (HD : Hid (LwD W b' d a' c')) (hs : smallB f d = true) (hW : Hid (Below W.heap.size W w)) :
    Calls Tryz.prog 12 #[.agg #[.int .i64 f.op, .string f.name, .int .i64 f.cmp, .int .i64 f.n, .slice a f.kids.length c], .agg #[.slice a' d.length c']] w fun e w' => ∃ (x : Option Addr) (k : Nat), e = .returned (.tuple #[.agg #[.slice x (buildD d f).1.length k], .int .i64 (buildD d f).2]) ∧ Hid (DgIn w' w'.heap.size (buildD d f).1 (.agg #[.slice x (buildD d f).1.length k])) ∧ Hid (Below W.heap.size W w') := by
  have hsz : f.size ≤ 250 := by
    unfold smallB at hs
    simp only [Bool.and_eq_true] at hs
    exact smallF_size (most := 250) hs.1.1
  refine (build_any f d _ _ w w.heap.size (by omega) (Nat.le_refl _) (HF.out.step hW.out).fo (HD.out.step hW.out).dom (HE.out.step hW.out).tab (fun hv hk => built_small hs hv hk)).mono ?_
  rintro e w' ⟨g, rfl, ⟨u, rfl, h1⟩, h2⟩
  obtain ⟨x, k, rfl, _⟩ := SlIn.shape h1
  exact ⟨x, k, rfl, ⟨_, rfl, h1⟩, lw_then hW h2⟩
theorem lw_valid (HE : Hid (LwS w0 W)) (HV : Hid (DgV W b t a c)) (HD : Hid (LwD W b' d a' c')) (h64 : ∀ n ∈ t, Dn64 n) (hW : Hid (Below W.heap.size W w)) :
    Calls Tryz.prog 15 #[.agg #[.slice a t.length c], .agg #[.slice a' d.length c']] w fun e w' => e = .returned (.bool (validG d t)) ∧ Hid (Below W.heap.size W w') := by
  refine (validG_any d t _ _ w w.heap.size (Nat.le_refl _) (HV.out.step hW.out).dg (HD.out.step hW.out).dom h64 (HE.out.step hW.out).tab).mono ?_
  rintro e w' ⟨rfl, h2⟩
  exact ⟨rfl, lw_then hW h2⟩
theorem lw_fits (HD : Hid (LwD W b' d a' c')) (HC : Hid (LwC W l v)) (hW : Hid (Below W.heap.size W w)) :
    Calls Tryz.prog 16 #[.agg #[.slice a' d.length c'], v] w fun e w' => e = .returned (.bool (fitsD d l)) ∧ Hid (Below W.heap.size W w') := by
  refine (fits_any d l _ _ w w.heap.size (Nat.le_refl _) (HD.out.step hW.out).dom (lwc_step HC.out hW.out)).mono ?_
  rintro e w' ⟨rfl, h2⟩
  exact ⟨rfl, lw_then hW h2⟩
theorem lw_holds (HV : Hid (DgV W b t a c)) (HC : Hid (LwC W l v)) (hW : Hid (Below W.heap.size W w)) :
    Calls Tryz.prog 17 #[.agg #[.slice a t.length c], v] w fun e w' => e = .returned (.bool (walkG t l t.length 0)) ∧ Hid (Below W.heap.size W w') := by
  refine (holdsG_any t l _ _ w w.heap.size (Nat.le_refl _) (HV.out.step hW.out).dg (lwc_step HC.out hW.out)).mono ?_
  rintro e w' ⟨rfl, h2⟩
  exact ⟨rfl, lw_then hW h2⟩
theorem lw_fholds (HF : Hid (LwF W b f a c)) (HD : Hid (LwD W b' d a' c')) (HC : Hid (LwC W l v)) (hs : f.size ≤ 1000000) (hW : Hid (Below W.heap.size W w)) :
    Calls Tryz.prog 18 #[.agg #[.int .i64 f.op, .string f.name, .int .i64 f.cmp, .int .i64 f.n, .slice a f.kids.length c], .agg #[.slice a' d.length c'], v, .slice none 0 0] w fun e w' => e = .returned (.bool (holdsF f d l [])) ∧ Hid (Below W.heap.size W w') := by
  refine (holdsP_any f d l [] _ _ _ _ w w.heap.size hs (Nat.le_refl _) (HF.out.step hW.out).fo (HD.out.step hW.out).dom (lwc_step HC.out hW.out) ⟨none, 0, rfl, Nat.le_refl _, Nat.zero_le _, fun h => absurd rfl h⟩).mono ?_
  rintro e w' ⟨rfl, h2⟩
  exact ⟨rfl, lw_then hW h2⟩
theorem lw_check (HF : Hid (LwF W b f a c)) (HD : Hid (LwD W b' d a' c')) (hs : f.size ≤ 1000000) (hW : Hid (Below W.heap.size W w)) :
    Calls Tryz.prog 14 #[.agg #[.int .i64 f.op, .string f.name, .int .i64 f.cmp, .int .i64 f.n, .slice a f.kids.length c], .agg #[.slice a' d.length c'], .slice none 0 0] w fun e w' => e = .returned (.int .i64 (checkF f d (fun _ => false))) ∧ Hid (Below W.heap.size W w') := by
  refine (checkP_any f d [] _ _ _ w w.heap.size hs (Nat.le_refl _) (HF.out.step hW.out).fo (HD.out.step hW.out).dom ⟨none, 0, rfl, Nat.le_refl _, Nat.zero_le _, fun h => absurd rfl h⟩).mono ?_
  rintro e w' ⟨rfl, h2⟩
  exact ⟨rfl, lw_then hW h2⟩
theorem lw_least (HE : Hid (LwS w0 W)) (HV : Hid (DgV W b t a c)) (HD : Hid (LwD W b' d a' c')) (h64 : ∀ n ∈ t, Dn64 n) (hW : Hid (Below W.heap.size W w)) :
    Calls Tryz.prog 20 #[.agg #[.slice a t.length c], .agg #[.slice a' d.length c']] w fun e w' => ∃ (x : Option Addr) (k : Nat), e = .returned (.tuple #[.slice x ((leastG d t).getD []).length k, .bool (leastG d t).isSome]) ∧
      Hid (LwC w' ((leastG d t).getD []) (.slice x ((leastG d t).getD []).length k)) ∧ Hid (Below W.heap.size W w') := by
  refine (leastG_any d t _ _ w w.heap.size (Nat.le_refl _) (HV.out.step hW.out).dg (HD.out.step hW.out).dom h64 (HE.out.step hW.out).tab).mono ?_
  rintro e w' ⟨cv, rfl, h1, h2⟩
  obtain ⟨x, k, rfl, _⟩ := SlIn.shape h1
  exact ⟨x, k, rfl, h1, lw_then hW h2⟩
theorem lw_same (HV : Hid (DgV W b t a c)) (HU : Hid (DgV W b' u a' c')) (hW : Hid (Below W.heap.size W w)) :
    Calls Tryz.prog 31 #[.agg #[.slice a t.length c], .agg #[.slice a' u.length c']] w fun e w' => e = .returned (.bool (decide (t = u))) ∧ Hid (Below W.heap.size W w') := by
  refine (sameD_any t u _ _ w w.heap.size (Nat.le_refl _) (HV.out.step hW.out).dg (HU.out.step hW.out).dg).mono ?_
  rintro e w' ⟨rfl, h2⟩
  exact ⟨rfl, lw_then hW h2⟩
theorem lw_less (HC : Hid (LwC W l v)) (HK : Hid (LwC W m v')) (hW : Hid (Below W.heap.size W w)) :
    Calls Tryz.prog 21 #[v, v'] w fun e w' => e = .returned (.bool (lessL l m)) ∧ Hid (Below W.heap.size W w') := by
  refine (refLess_any l m _ _ w w.heap.size (Nat.le_refl _) (lwc_step HC.out hW.out) (lwc_step HK.out hW.out)).mono ?_
  rintro e w' ⟨rfl, h2⟩
  exact ⟨rfl, lw_then hW h2⟩
end

/-- what pair says of two formulas -/
def pairB (f h : Fo) (d : List Fa) : Bool := smallB f d && smallB h d && decide ((buildD d f).2 = 0) && decide ((buildD d h).2 = 0)

theorem build_zero {d : List Fa} {f : Fo} (h : (buildD d f).2 = 0) : validD d = true ∧ checkF f d (fun _ => false) = 0 ∧ (buildD d f).1 = tableB d f := by
  unfold buildD at h ⊢
  split at h
  · cases h
  · next h1 =>
    split at h
    · cases h
    · next h2 =>
      rw [if_neg h1, if_neg h2]
      refine ⟨?_, ?_, rfl⟩
      · cases e : validD d with
        | true => rfl
        | false => exact absurd (.inl e) h1
      · exact Classical.byContradiction fun e => h1 (.inr e)

end Go.Proofs.YtejbgoigkefnfaaGreatDoor

namespace Go.Proofs.YtejbgoigkefnfaaGreatDoor
open Go.RowKit

/-- what stands in other blocks -/
theorem blk_far {W : World} {B b : Nat} {t : TypeId} {cs : Array Value} (h : Blk W B t cs) (hne : b ≠ B) (v : Value) : Blk (W.setCell ⟨b, 0, none⟩ v) B t cs := by
  show (W.heap.modify b _)[B]? = _
  rw [Array.getElem?_modify, if_neg hne]
  exact h

/-- two result variables that get diagrams -/
theorem pair_end {w W : World} {b b' : Nat} {t1 t2 : List Dn} {a1 a2 : Option Addr} {c1 c2 : Nat} {o o' : Option Addr} {n n' k k' : Nat} (hl : Below w.heap.size w W) (h1 : w.heap.size ≤ b) (h2 : w.heap.size ≤ b') (hne : b ≠ b') (hb : Blk W b 34 #[.slice o n k]) (hb' : Blk W b' 34 #[.slice o' n' k'])
    (d1 : DgIn W W.heap.size t1 (.agg #[.slice a1 t1.length c1])) (d2 : DgIn W W.heap.size t2 (.agg #[.slice a2 t2.length c2])) (v v' : Value) :
    Hid (DgIn ((W.setCell ⟨b, 0, none⟩ v).setCell ⟨b', 0, none⟩ v').drew ((W.setCell ⟨b, 0, none⟩ v).setCell ⟨b', 0, none⟩ v').drew.heap.size t1 (.agg #[.slice a1 t1.length c1])) ∧ Hid (DgIn ((W.setCell ⟨b, 0, none⟩ v).setCell ⟨b', 0, none⟩ v').drew ((W.setCell ⟨b, 0, none⟩ v).setCell ⟨b', 0, none⟩ v').drew.heap.size t2 (.agg #[.slice a2 t2.length c2])) ∧ Below w.heap.size w ((W.setCell ⟨b, 0, none⟩ v).setCell ⟨b', 0, none⟩ v').drew := by
  have q := blk_far hb' hne v
  have hs : ((W.setCell ⟨b, 0, none⟩ v).setCell ⟨b', 0, none⟩ v').drew.heap.size = W.heap.size := by show ((W.setCell ⟨b, 0, none⟩ v).setCell ⟨b', 0, none⟩ v').heap.size = _; rw [World.size_setCell, World.size_setCell]
  have hd : Below ((W.setCell ⟨b, 0, none⟩ v).setCell ⟨b', 0, none⟩ v').heap.size ((W.setCell ⟨b, 0, none⟩ v).setCell ⟨b', 0, none⟩ v') ((W.setCell ⟨b, 0, none⟩ v).setCell ⟨b', 0, none⟩ v').drew := (Below.refl _ _).drew
  have hx : ((W.setCell ⟨b, 0, none⟩ v).setCell ⟨b', 0, none⟩ v').heap.size = W.heap.size := by rw [World.size_setCell, World.size_setCell]
  rw [hx] at hd
  rw [hs]
  exact ⟨((d1.set hb v).set q v').below hd, ((d2.set hb v).set q v').below hd, ((hl.setCell (p := ⟨b, 0, none⟩) h1 v).setCell (p := ⟨b', 0, none⟩) h2 v').drew⟩

theorem below_five (w : World) (o1 o2 o3 o4 o5 : Obj) : Below w.heap.size w (((((w.alloc o1).alloc o2).alloc o3).alloc o4).alloc o5) :=
  (((((Below.refl _ _).alloc (Nat.le_refl _) _).alloc (by simp) _).alloc (by simp; omega) _).alloc (by simp; omega) _).alloc (by simp; omega) _

theorem pair_start {f h : Fo} {d : List Fa} {w : World} {af ah ad : Option Addr} {cf ch cd : Nat} (hf : f.In w w.heap.size (.agg #[.int .i64 f.op, .string f.name, .int .i64 f.cmp, .int .i64 f.n, .slice af f.kids.length cf])) (hh : h.In w w.heap.size (.agg #[.int .i64 h.op, .string h.name, .int .i64 h.cmp, .int .i64 h.n, .slice ah h.kids.length ch])) (hd : DomIn w w.heap.size d (.agg #[.slice ad d.length cd])) (hT : TabH w.heap.size w) :
    Hid (LwS w (((((w.alloc (.cells #[.int .i64 f.op, .string f.name, .int .i64 f.cmp, .int .i64 f.n, .slice af f.kids.length cf] 24)).alloc (.cells #[.int .i64 h.op, .string h.name, .int .i64 h.cmp, .int .i64 h.n, .slice ah h.kids.length ch] 24)).alloc (.cells #[.slice ad d.length cd] 27)).alloc (.cells #[.slice none 0 0] 34)).alloc (.cells #[.slice none 0 0] 34))) ∧ Hid (LwF (((((w.alloc (.cells #[.int .i64 f.op, .string f.name, .int .i64 f.cmp, .int .i64 f.n, .slice af f.kids.length cf] 24)).alloc (.cells #[.int .i64 h.op, .string h.name, .int .i64 h.cmp, .int .i64 h.n, .slice ah h.kids.length ch] 24)).alloc (.cells #[.slice ad d.length cd] 27)).alloc (.cells #[.slice none 0 0] 34)).alloc (.cells #[.slice none 0 0] 34)) w.heap.size f af cf) ∧ Hid (LwF (((((w.alloc (.cells #[.int .i64 f.op, .string f.name, .int .i64 f.cmp, .int .i64 f.n, .slice af f.kids.length cf] 24)).alloc (.cells #[.int .i64 h.op, .string h.name, .int .i64 h.cmp, .int .i64 h.n, .slice ah h.kids.length ch] 24)).alloc (.cells #[.slice ad d.length cd] 27)).alloc (.cells #[.slice none 0 0] 34)).alloc (.cells #[.slice none 0 0] 34)) (w.heap.size + 1) h ah ch) ∧ Hid (LwD (((((w.alloc (.cells #[.int .i64 f.op, .string f.name, .int .i64 f.cmp, .int .i64 f.n, .slice af f.kids.length cf] 24)).alloc (.cells #[.int .i64 h.op, .string h.name, .int .i64 h.cmp, .int .i64 h.n, .slice ah h.kids.length ch] 24)).alloc (.cells #[.slice ad d.length cd] 27)).alloc (.cells #[.slice none 0 0] 34)).alloc (.cells #[.slice none 0 0] 34)) (w.heap.size + 1 + 1) d ad cd) ∧ Hid (Blk (((((w.alloc (.cells #[.int .i64 f.op, .string f.name, .int .i64 f.cmp, .int .i64 f.n, .slice af f.kids.length cf] 24)).alloc (.cells #[.int .i64 h.op, .string h.name, .int .i64 h.cmp, .int .i64 h.n, .slice ah h.kids.length ch] 24)).alloc (.cells #[.slice ad d.length cd] 27)).alloc (.cells #[.slice none 0 0] 34)).alloc (.cells #[.slice none 0 0] 34)) (w.heap.size + 1 + 1 + 1) 34 #[.slice none 0 0]) ∧ Hid (Blk (((((w.alloc (.cells #[.int .i64 f.op, .string f.name, .int .i64 f.cmp, .int .i64 f.n, .slice af f.kids.length cf] 24)).alloc (.cells #[.int .i64 h.op, .string h.name, .int .i64 h.cmp, .int .i64 h.n, .slice ah h.kids.length ch] 24)).alloc (.cells #[.slice ad d.length cd] 27)).alloc (.cells #[.slice none 0 0] 34)).alloc (.cells #[.slice none 0 0] 34)) (w.heap.size + 1 + 1 + 1 + 1) 34 #[.slice none 0 0]) := by
  have hb := below_five w (.cells #[.int .i64 f.op, .string f.name, .int .i64 f.cmp, .int .i64 f.n, .slice af f.kids.length cf] 24) (.cells #[.int .i64 h.op, .string h.name, .int .i64 h.cmp, .int .i64 h.n, .slice ah h.kids.length ch] 24) (.cells #[.slice ad d.length cd] 27) (.cells #[.slice none 0 0] 34) (.cells #[.slice none 0 0] 34)
  have k0 : Blk (((((w.alloc (.cells #[.int .i64 f.op, .string f.name, .int .i64 f.cmp, .int .i64 f.n, .slice af f.kids.length cf] 24)).alloc (.cells #[.int .i64 h.op, .string h.name, .int .i64 h.cmp, .int .i64 h.n, .slice ah h.kids.length ch] 24)).alloc (.cells #[.slice ad d.length cd] 27)).alloc (.cells #[.slice none 0 0] 34)).alloc (.cells #[.slice none 0 0] 34)) w.heap.size 24 #[.int .i64 f.op, .string f.name, .int .i64 f.cmp, .int .i64 f.n, .slice af f.kids.length cf] := ((((Blk.new w 24 #[.int .i64 f.op, .string f.name, .int .i64 f.cmp, .int .i64 f.n, .slice af f.kids.length cf]).alloc _).alloc _).alloc _).alloc _
  have k1 : Blk (((((w.alloc (.cells #[.int .i64 f.op, .string f.name, .int .i64 f.cmp, .int .i64 f.n, .slice af f.kids.length cf] 24)).alloc (.cells #[.int .i64 h.op, .string h.name, .int .i64 h.cmp, .int .i64 h.n, .slice ah h.kids.length ch] 24)).alloc (.cells #[.slice ad d.length cd] 27)).alloc (.cells #[.slice none 0 0] 34)).alloc (.cells #[.slice none 0 0] 34)) (w.heap.size + 1) 24 #[.int .i64 h.op, .string h.name, .int .i64 h.cmp, .int .i64 h.n, .slice ah h.kids.length ch] := by
    have q := (((Blk.new (w.alloc (.cells #[.int .i64 f.op, .string f.name, .int .i64 f.cmp, .int .i64 f.n, .slice af f.kids.length cf] 24)) 24 #[.int .i64 h.op, .string h.name, .int .i64 h.cmp, .int .i64 h.n, .slice ah h.kids.length ch]).alloc (.cells #[.slice ad d.length cd] 27)).alloc (.cells #[.slice none 0 0] 34)).alloc (.cells #[.slice none 0 0] 34)
    rw [World.size_alloc] at q
    exact q
  have k2 : Blk (((((w.alloc (.cells #[.int .i64 f.op, .string f.name, .int .i64 f.cmp, .int .i64 f.n, .slice af f.kids.length cf] 24)).alloc (.cells #[.int .i64 h.op, .string h.name, .int .i64 h.cmp, .int .i64 h.n, .slice ah h.kids.length ch] 24)).alloc (.cells #[.slice ad d.length cd] 27)).alloc (.cells #[.slice none 0 0] 34)).alloc (.cells #[.slice none 0 0] 34)) (w.heap.size + 1 + 1) 27 #[.slice ad d.length cd] := by
    have q := ((Blk.new ((w.alloc (.cells #[.int .i64 f.op, .string f.name, .int .i64 f.cmp, .int .i64 f.n, .slice af f.kids.length cf] 24)).alloc (.cells #[.int .i64 h.op, .string h.name, .int .i64 h.cmp, .int .i64 h.n, .slice ah h.kids.length ch] 24)) 27 #[.slice ad d.length cd]).alloc (.cells #[.slice none 0 0] 34)).alloc (.cells #[.slice none 0 0] 34)
    rw [World.size_alloc, World.size_alloc] at q
    exact q
  have k3 : Blk (((((w.alloc (.cells #[.int .i64 f.op, .string f.name, .int .i64 f.cmp, .int .i64 f.n, .slice af f.kids.length cf] 24)).alloc (.cells #[.int .i64 h.op, .string h.name, .int .i64 h.cmp, .int .i64 h.n, .slice ah h.kids.length ch] 24)).alloc (.cells #[.slice ad d.length cd] 27)).alloc (.cells #[.slice none 0 0] 34)).alloc (.cells #[.slice none 0 0] 34)) (w.heap.size + 1 + 1 + 1) 34 #[.slice none 0 0] := by
    have q := (Blk.new (((w.alloc (.cells #[.int .i64 f.op, .string f.name, .int .i64 f.cmp, .int .i64 f.n, .slice af f.kids.length cf] 24)).alloc (.cells #[.int .i64 h.op, .string h.name, .int .i64 h.cmp, .int .i64 h.n, .slice ah h.kids.length ch] 24)).alloc (.cells #[.slice ad d.length cd] 27)) 34 #[.slice none 0 0]).alloc (.cells #[.slice none 0 0] 34)
    rw [World.size_alloc, World.size_alloc, World.size_alloc] at q
    exact q
  have k4 : Blk (((((w.alloc (.cells #[.int .i64 f.op, .string f.name, .int .i64 f.cmp, .int .i64 f.n, .slice af f.kids.length cf] 24)).alloc (.cells #[.int .i64 h.op, .string h.name, .int .i64 h.cmp, .int .i64 h.n, .slice ah h.kids.length ch] 24)).alloc (.cells #[.slice ad d.length cd] 27)).alloc (.cells #[.slice none 0 0] 34)).alloc (.cells #[.slice none 0 0] 34)) (w.heap.size + 1 + 1 + 1 + 1) 34 #[.slice none 0 0] := by
    have q := Blk.new ((((w.alloc (.cells #[.int .i64 f.op, .string f.name, .int .i64 f.cmp, .int .i64 f.n, .slice af f.kids.length cf] 24)).alloc (.cells #[.int .i64 h.op, .string h.name, .int .i64 h.cmp, .int .i64 h.n, .slice ah h.kids.length ch] 24)).alloc (.cells #[.slice ad d.length cd] 27)).alloc (.cells #[.slice none 0 0] 34)) 34 #[.slice none 0 0]
    rw [World.size_alloc, World.size_alloc, World.size_alloc, World.size_alloc] at q
    exact q
  exact ⟨(lws_new hT).step hb, ⟨k0, (Fo.In.below hb _ _ hf).mono hb.size⟩, ⟨k1, (Fo.In.below hb _ _ hh).mono hb.size⟩, ⟨k2, (hd.below hb).mono hb.size⟩, k3, k4⟩

set_option maxRecDepth 100000 in
set_option maxHeartbeats 4000000 in
theorem pair_any {f h : Fo} {d : List Fa} {w : World} {vf vh u : Value} (hf : f.In w w.heap.size vf) (hh : h.In w w.heap.size vh) (hd : DomIn w w.heap.size d u) (hT : TabH w.heap.size w) :
    Calls Tryz.prog 19 #[vf, vh, u] w fun e w' => ∃ (t1 t2 : List Dn) (a1 a2 : Option Addr) (c1 c2 : Nat), e = .returned (.tuple #[.agg #[.slice a1 t1.length c1], .agg #[.slice a2 t2.length c2], .bool (pairB f h d)]) ∧
      Hid (DgIn w' w'.heap.size t1 (.agg #[.slice a1 t1.length c1])) ∧ Hid (DgIn w' w'.heap.size t2 (.agg #[.slice a2 t2.length c2])) ∧ (pairB f h d = true → t1 = tableB d f ∧ t2 = tableB d h) ∧ Below w.heap.size w w' := by
  obtain ⟨af, cf, rfl⟩ := hf.shape
  obtain ⟨ah, ch, rfl⟩ := hh.shape
  have hd1 := hd
  obtain ⟨du, rfl, hdu⟩ := hd
  obtain ⟨ad, cd, rfl, _⟩ := SlIn.shape hdu
  obtain ⟨HE, HF, HH, HD, HK3, HK4⟩ := pair_start hf hh hd1 hT
  clear hf hh hd1 hdu hT
  obtain ⟨W, hW⟩ : ∃ W, (((((w.alloc (.cells #[.int .i64 f.op, .string f.name, .int .i64 f.cmp, .int .i64 f.n, .slice af f.kids.length cf] 24)).alloc (.cells #[.int .i64 h.op, .string h.name, .int .i64 h.cmp, .int .i64 h.n, .slice ah h.kids.length ch] 24)).alloc (.cells #[.slice ad d.length cd] 27)).alloc (.cells #[.slice none 0 0] 34)).alloc (.cells #[.slice none 0 0] 34)) = W := ⟨_, rfl⟩
  rw [hW] at HE HF HH HD HK3 HK4
  have HW := Lib.hid hW
  clear hW
  have HB0 : Hid (Below W.heap.size W W) := Below.refl _ _
  have HCL : Hid (∀ w', Hid (Below W.heap.size W w') → w'.cell? ⟨w.heap.size, 0, none⟩ = some (.int .i64 f.op) ∧ w'.cell? ⟨w.heap.size, 1, none⟩ = some (.string f.name) ∧ w'.cell? ⟨w.heap.size, 2, none⟩ = some (.int .i64 f.cmp) ∧ w'.cell? ⟨w.heap.size, 3, none⟩ = some (.int .i64 f.n) ∧ w'.cell? ⟨w.heap.size, 4, none⟩ = some (.slice af f.kids.length cf) ∧
      w'.cell? ⟨w.heap.size + 1, 0, none⟩ = some (.int .i64 h.op) ∧ w'.cell? ⟨w.heap.size + 1, 1, none⟩ = some (.string h.name) ∧ w'.cell? ⟨w.heap.size + 1, 2, none⟩ = some (.int .i64 h.cmp) ∧ w'.cell? ⟨w.heap.size + 1, 3, none⟩ = some (.int .i64 h.n) ∧ w'.cell? ⟨w.heap.size + 1, 4, none⟩ = some (.slice ah h.kids.length ch) ∧
      w'.cell? ⟨w.heap.size + 1 + 1, 0, none⟩ = some (.slice ad d.length cd)) := fun w' hb =>
    have p := HF.out.box.below hb.out
    have q := HH.out.box.below hb.out
    ⟨p.cell 0, p.cell 1, p.cell 2, p.cell 3, p.cell 4, q.cell 0, q.cell 1, q.cell 2, q.cell 3, q.cell 4, (HD.out.box.below hb.out).cell 0⟩
  obtain ⟨x0, x1, x2, x3, x4, y0, y1, y2, y3, y4, z0⟩ := HCL.out W HB0
  cases hs : smallB f d with
  | false =>
    have hp : pairB f h d = false := by unfold pairB; rw [hs]; rfl
    rw [hp]
    have HSM := Lib.hid (fun w' (hb : Hid (Below W.heap.size W w')) => lw_small HF HD hb)
    rw [hs] at HSM
    go_enter Tryz.func19, Tryz.ntmps19
    go_upto_region 1 with (fail)
    rw [HW.out]
    go_upto_region 2 with (go_at_call 11; refine (HSM.out _ HB0).mono ?_; rintro e w1 ⟨rfl, HB1⟩)
    clear x0 x1 x2 x3 x4 y0 y1 y2 y3 y4 z0
    (have HN3 := Lib.hid (HK3.out.below HB1.out); have HN4 := Lib.hid (HK4.out.below HB1.out); have n3 := HN3.out.cell 0; have n4 := HN4.out.cell 0; have f3 := HN3.out.frozen 0; have f4 := HN4.out.frozen 0; go_wp2; refine bodyPost_ret (by simp [results, Tryz.results19, go_sem, n3, n4]; try rfl) rfl ?_; exact ⟨[], [], none, none, 0, 0, rfl, DgIn.nil _ _, DgIn.nil _ _, (fun h => by cases h), ((HE.out.low.trans (HB1.out.mono HE.out.low.size)).setCell (p := ⟨w.heap.size + 1 + 1 + 1, 0, none⟩) (by show w.heap.size ≤ w.heap.size + 1 + 1 + 1; omega) _).setCell (p := ⟨w.heap.size + 1 + 1 + 1 + 1, 0, none⟩) (by show w.heap.size ≤ w.heap.size + 1 + 1 + 1 + 1; omega) _⟩)
  | true =>
    cases hk : smallB h d with
    | false =>
      have hp : pairB f h d = false := by unfold pairB; rw [hs, hk]; rfl
      rw [hp]
      have HSM := Lib.hid (fun w' (hb : Hid (Below W.heap.size W w')) => lw_small HF HD hb)
      have HSN := Lib.hid (fun w' (hb : Hid (Below W.heap.size W w')) => lw_small HH HD hb)
      rw [hs] at HSM
      rw [hk] at HSN
      go_enter Tryz.func19, Tryz.ntmps19
      go_upto_region 1 with (fail)
      rw [HW.out]
      go_upto_region 2 with (first | (go_at_call_of 11 af; refine (HSM.out _ HB0).mono ?_; rintro e w9 ⟨rfl, HB9⟩; clear x0 x1 x2 x3 x4 y0 y1 y2 y3 y4 z0; obtain ⟨x0, x1, x2, x3, x4, y0, y1, y2, y3, y4, z0⟩ := HCL.out _ HB9) | (go_at_call_of 11 ah; refine (HSN.out _ HB9).mono ?_; rintro e w1 ⟨rfl, HB1⟩))
      clear x0 x1 x2 x3 x4 y0 y1 y2 y3 y4 z0
      (have HN3 := Lib.hid (HK3.out.below HB1.out); have HN4 := Lib.hid (HK4.out.below HB1.out); have n3 := HN3.out.cell 0; have n4 := HN4.out.cell 0; have f3 := HN3.out.frozen 0; have f4 := HN4.out.frozen 0; go_wp2; refine bodyPost_ret (by simp [results, Tryz.results19, go_sem, n3, n4]; try rfl) rfl ?_; exact ⟨[], [], none, none, 0, 0, rfl, DgIn.nil _ _, DgIn.nil _ _, (fun h => by cases h), ((HE.out.low.trans (HB1.out.mono HE.out.low.size)).setCell (p := ⟨w.heap.size + 1 + 1 + 1, 0, none⟩) (by show w.heap.size ≤ w.heap.size + 1 + 1 + 1; omega) _).setCell (p := ⟨w.heap.size + 1 + 1 + 1 + 1, 0, none⟩) (by show w.heap.size ≤ w.heap.size + 1 + 1 + 1 + 1; omega) _⟩)
    | true =>
      have HBF := Lib.hid (fun w' (hb : Hid (Below W.heap.size W w')) => lw_build HE HF HD hs hb)
      have HSM := Lib.hid (fun w' (hb : Hid (Below W.heap.size W w')) => lw_small HF HD hb)
      have HSN := Lib.hid (fun w' (hb : Hid (Below W.heap.size W w')) => lw_small HH HD hb)
      rw [hs] at HSM
      rw [hk] at HSN
      have hp : pairB f h d = (decide ((buildD d f).2 = 0) && decide ((buildD d h).2 = 0)) := by unfold pairB; rw [hs, hk]; rfl
      have HP : Hid (∀ er1 er2 : Int, (buildD d f).2 = er1 → (buildD d h).2 = er2 → pairB f h d = (decide (er1 = 0) && decide (er2 = 0)) ∧ (pairB f h d = true → (buildD d f).1 = tableB d f ∧ (buildD d h).1 = tableB d h)) := by
        rintro _ _ rfl rfl
        refine ⟨hp, fun h0 => ?_⟩
        rw [hp] at h0
        simp only [Bool.and_eq_true, decide_eq_true_eq] at h0
        exact ⟨(build_zero h0.1).2.2, (build_zero h0.2).2.2⟩
      clear hp
      generalize buildD d f = BF at *
      obtain ⟨BH, hBH⟩ : ∃ BH, buildD d h = BH := ⟨_, rfl⟩
      rw [hBH] at HP
      obtain ⟨t1, er1⟩ := BF
      obtain ⟨t2, er2⟩ := BH
      have HBQ := Lib.hid hBH
      clear hBH
      obtain ⟨hp1, hp2⟩ := HP.out er1 er2 rfl rfl
      have HP2 := Lib.hid hp2
      have HP1 := Lib.hid hp1
      clear hp1 hp2 HP
      go_enter Tryz.func19, Tryz.ntmps19
      go_upto_region 1 with (fail)
      rw [HW.out]
      go_upto_region 3 with (first | (go_at_call_of 11 af; refine (HSM.out _ HB0).mono ?_; rintro e w9 ⟨rfl, HB9⟩; clear x0 x1 x2 x3 x4 y0 y1 y2 y3 y4 z0; obtain ⟨x0, x1, x2, x3, x4, y0, y1, y2, y3, y4, z0⟩ := HCL.out _ HB9) | (go_at_call_of 11 ah; refine (HSN.out _ HB9).mono ?_; rintro e w1 ⟨rfl, HB1⟩; clear x0 x1 x2 x3 x4 y0 y1 y2 y3 y4 z0; obtain ⟨x0, x1, x2, x3, x4, y0, y1, y2, y3, y4, z0⟩ := HCL.out _ HB1))
      have HB2 := HB1
      clear HB1 HSM HSN HB9 HB0 HW
      go_upto_region 4 with (go_at_call 12; refine (HBF.out _ HB2).mono ?_; rintro e w2 ⟨ga, gk, rfl, HG, HB3⟩)
      have HV := dgv_new HG
      have HB4 : Hid (Below W.heap.size W (w2.alloc (.cells #[.slice ga t1.length gk] 34))) := hd_alloc HB3
      have HE4 := Lib.hid (HE.out.step HB4.out)
      have HH4 := Lib.hid (HH.out.step HB4.out)
      have HD4 := Lib.hid (HD.out.step HB4.out)
      have HN3 := Lib.hid (HK3.out.below HB4.out)
      have HN4 := Lib.hid (HK4.out.below HB4.out)
      have HS3 := Lib.hid (HK3.out.lt)
      have HS4 := Lib.hid (HK4.out.lt)
      have HZ4 := Lib.hid HB3.out.size
      clear x0 x1 x2 x3 x4 y0 y1 y2 y3 y4 z0 HCL HB3 HB4 HB2 HE HF HH HD HK3 HK4 HBF HG
      generalize (w2.alloc (.cells #[.slice ga t1.length gk] 34)) = W4 at *
      generalize w2.heap.size = b9 at *
      have HBH : Hid (∀ w', Hid (Below W4.heap.size W4 w') → Calls Tryz.prog 12 #[.agg #[.int .i64 h.op, .string h.name, .int .i64 h.cmp, .int .i64 h.n, .slice ah h.kids.length ch], .agg #[.slice ad d.length cd]] w' fun e w'' => ∃ (x : Option Addr) (k : Nat), e = .returned (.tuple #[.agg #[.slice x t2.length k], .int .i64 er2]) ∧ Hid (DgIn w'' w''.heap.size t2 (.agg #[.slice x t2.length k])) ∧ Hid (Below W4.heap.size W4 w'')) := fun w' hb => by
        have q := lw_build HE4 HH4 HD4 hk hb
        rw [HBQ.out] at q
        exact q
      have HB0 : Hid (Below W4.heap.size W4 W4) := Below.refl _ _
      have y0 := HH4.out.box.cell 0
      have y1 := HH4.out.box.cell 1
      have y2 := HH4.out.box.cell 2
      have y3 := HH4.out.box.cell 3
      have y4 := HH4.out.box.cell 4
      have z0 := HD4.out.box.cell 0
      go_upto_region 5 with (go_at_call 12; refine (HBH.out _ HB0).mono ?_; rintro e w5 ⟨ha, hk5, rfl, HG, HB3⟩)
      have HU := dgv_new HG
      have HB4 : Hid (Below W4.heap.size W4 (w5.alloc (.cells #[.slice ha t2.length hk5] 34))) := hd_alloc HB3
      have HE5 := Lib.hid (HE4.out.step HB4.out)
      have HV5 := Lib.hid (HV.out.step HB4.out)
      have HN3' := Lib.hid (HN3.out.below HB4.out)
      have HN4' := Lib.hid (HN4.out.below HB4.out)
      have HZ5 := Lib.hid HB3.out.size
      have HT3 := Lib.hid HN3.out.lt
      have HT4 := Lib.hid HN4.out.lt
      clear y0 y1 y2 y3 y4 z0 HB3 HB4 HB0 HE4 HH4 HD4 HN3 HN4 HV HBH HG HBQ
      generalize (w5.alloc (.cells #[.slice ha t2.length hk5] 34)) = W6 at *
      generalize w5.heap.size = b11 at *
      have v0 := HV5.out.box.cell 0
      have u0 := HU.out.box.cell 0
      have n3 := HN3'.out.cell 0
      have n4 := HN4'.out.cell 0
      have f3 := HN3'.out.frozen 0
      have f4 := HN4'.out.frozen 0
      have v1 := (blk_far HV5.out.box (b := w.heap.size + 1 + 1 + 1 + 1) (by have := HS4.out; have := HZ4.out; omega) (.slice ha t2.length hk5)).cell 0
      have u1 := (blk_far HU.out.box (b := w.heap.size + 1 + 1 + 1) (by have := HT3.out; have := HZ5.out; omega) (.slice ga t1.length gk)).cell 0
      by_cases he : er1 = 0
      · subst he
        have HPB : Hid (pairB f h d = (er2 == 0)) := by show _ = _; rw [HP1.out]; simp [Bool.beq_eq_decide_eq]
        clear HP1
        go_region
        all_goals
          go_wp2
          refine bodyPost_ret (by simp [results, Tryz.results19, go_sem, n3, n4]; try rfl) rfl ?_
          obtain ⟨q1, q2, q3⟩ := pair_end HE5.out.low (show w.heap.size ≤ w.heap.size + 1 + 1 + 1 by omega) (show w.heap.size ≤ w.heap.size + 1 + 1 + 1 + 1 by omega) (show w.heap.size + 1 + 1 + 1 ≠ w.heap.size + 1 + 1 + 1 + 1 by omega) HN3'.out HN4'.out HV5.out.dg HU.out.dg (.slice ga t1.length gk) (.slice ha t2.length hk5)
          exact ⟨t1, t2, ga, ha, gk, hk5, (by rw [HPB.out]), q1, q2, HP2.out, q3⟩
      · have he0 : (er1 == 0) = false := by simpa using he
        have HPB : Hid (pairB f h d = false) := by show _ = _; rw [HP1.out]; simp [he]
        clear HP1 he
        go_region
        all_goals
          go_wp2
          refine bodyPost_ret (by simp [results, Tryz.results19, go_sem, n3, n4]; try rfl) rfl ?_
          obtain ⟨q1, q2, q3⟩ := pair_end HE5.out.low (show w.heap.size ≤ w.heap.size + 1 + 1 + 1 by omega) (show w.heap.size ≤ w.heap.size + 1 + 1 + 1 + 1 by omega) (show w.heap.size + 1 + 1 + 1 ≠ w.heap.size + 1 + 1 + 1 + 1 by omega) HN3'.out HN4'.out HV5.out.dg HU.out.dg (.slice ga t1.length gk) (.slice ha t2.length hk5)
          exact ⟨t1, t2, ga, ha, gk, hk5, (by rw [HPB.out]), q1, q2, HP2.out, q3⟩

/-- pair at variables of a law -/
theorem lw_pair {w0 W w : World} {f h : Fo} {d : List Fa} {b b' b'' : Nat} {a a' a'' : Option Addr} {c c' c'' : Nat} (HE : Hid (LwS w0 W)) (HF : Hid (LwF W b f a c)) (HH : Hid (LwF W b' h a' c')) (HD : Hid (LwD W b'' d a'' c'')) (hW : Hid (Below W.heap.size W w)) :
    Calls Tryz.prog 19 #[.agg #[.int .i64 f.op, .string f.name, .int .i64 f.cmp, .int .i64 f.n, .slice a f.kids.length c], .agg #[.int .i64 h.op, .string h.name, .int .i64 h.cmp, .int .i64 h.n, .slice a' h.kids.length c'], .agg #[.slice a'' d.length c'']] w fun e w' => ∃ (t1 t2 : List Dn) (a1 a2 : Option Addr) (c1 c2 : Nat), e = .returned (.tuple #[.agg #[.slice a1 t1.length c1], .agg #[.slice a2 t2.length c2], .bool (pairB f h d)]) ∧
      Hid (DgIn w' w'.heap.size t1 (.agg #[.slice a1 t1.length c1])) ∧ Hid (DgIn w' w'.heap.size t2 (.agg #[.slice a2 t2.length c2])) ∧ (pairB f h d = true → t1 = tableB d f ∧ t2 = tableB d h) ∧ Hid (Below W.heap.size W w') := by
  refine (pair_any (HF.out.step hW.out).fo (HH.out.step hW.out).fo (HD.out.step hW.out).dom (HE.out.step hW.out).tab).mono ?_
  rintro e w' ⟨t1, t2, a1, a2, c1, c2, rfl, h1, h2, h3, h4⟩
  exact ⟨t1, t2, a1, a2, c1, c2, rfl, h1, h2, h3, lw_then hW h4⟩

/-- two new variables that hold diagrams -/
theorem dgv_pair {w : World} {t1 t2 : List Dn} {a1 a2 : Option Addr} {c1 c2 : Nat} (h1 : Hid (DgIn w w.heap.size t1 (.agg #[.slice a1 t1.length c1]))) (h2 : Hid (DgIn w w.heap.size t2 (.agg #[.slice a2 t2.length c2]))) :
    Hid (DgV ((w.alloc (.cells #[.slice a1 t1.length c1] 34)).alloc (.cells #[.slice a2 t2.length c2] 34)) w.heap.size t1 a1 c1) ∧
    Hid (DgV ((w.alloc (.cells #[.slice a1 t1.length c1] 34)).alloc (.cells #[.slice a2 t2.length c2] 34)) (w.heap.size + 1) t2 a2 c2) := by
  have k1 : Below w.heap.size w (w.alloc (.cells #[.slice a1 t1.length c1] 34)) := (Below.refl _ _).alloc (Nat.le_refl _) _
  refine ⟨(dgv_new h1).out.step ((Below.refl _ _).alloc (Nat.le_refl _) _), ?_⟩
  have q := dgv_new (W := w.alloc (.cells #[.slice a1 t1.length c1] 34)) (t := t2) (a := a2) (c := c2) ((h2.out.below k1).mono (by simp))
  rw [World.size_alloc] at q
  exact q

/-- the start of a law over a formula and a domain -/
theorem lw_start {w : World} {f : Fo} {d : List Fa} {a a'' : Option Addr} {c c'' : Nat} (hf : f.In w w.heap.size (.agg #[.int .i64 f.op, .string f.name, .int .i64 f.cmp, .int .i64 f.n, .slice a f.kids.length c])) (hd : DomIn w w.heap.size d (.agg #[.slice a'' d.length c''])) (hT : TabH w.heap.size w) :
    Hid (LwS w ((w.alloc (.cells #[.int .i64 f.op, .string f.name, .int .i64 f.cmp, .int .i64 f.n, .slice a f.kids.length c] 24)).alloc (.cells #[.slice a'' d.length c''] 27))) ∧ Hid (LwF ((w.alloc (.cells #[.int .i64 f.op, .string f.name, .int .i64 f.cmp, .int .i64 f.n, .slice a f.kids.length c] 24)).alloc (.cells #[.slice a'' d.length c''] 27)) w.heap.size f a c) ∧
    Hid (LwD ((w.alloc (.cells #[.int .i64 f.op, .string f.name, .int .i64 f.cmp, .int .i64 f.n, .slice a f.kids.length c] 24)).alloc (.cells #[.slice a'' d.length c''] 27)) (w.heap.size + 1) d a'' c'') := by
  have hb : Below w.heap.size w ((w.alloc (.cells #[.int .i64 f.op, .string f.name, .int .i64 f.cmp, .int .i64 f.n, .slice a f.kids.length c] 24)).alloc (.cells #[.slice a'' d.length c''] 27)) := ((Below.refl _ _).alloc (Nat.le_refl _) _).alloc (by simp) _
  exact ⟨(lws_new hT).step hb, ⟨(Blk.new w 24 #[.int .i64 f.op, .string f.name, .int .i64 f.cmp, .int .i64 f.n, .slice a f.kids.length c]).alloc _, (Fo.In.below hb _ _ hf).mono hb.size⟩, ⟨hd_two w _ _ _, (hd.below hb).mono hb.size⟩⟩

end Go.Proofs.YtejbgoigkefnfaaGreatDoor
