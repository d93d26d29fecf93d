/- The walk of law14's head: the examples of the chapter. No conditions. -/
import Derived.Test.YtihpoecdnchioaaGreatDoorEx
import Derived.Test.YtihpoecdnchioaaGreatDoorApl
namespace Go.Proofs.YtihpoecdnchioaaGreatDoor
open Go.RowKit Tj

theorem strs1 (W : World) (a : ByteArray) (t : TypeId) : StrsIn (W.alloc (.cells #[.string a] t)) (W.heap.size + 1) [a] (.slice (some ⟨W.heap.size, 0, none⟩) 1 1) :=
  ⟨some ⟨W.heap.size, 0, none⟩, 1, rfl, Nat.le_refl _, by decide, fun _ => ⟨W.heap.size, 0, rfl, by omega, fun i hi => by
    match i, hi with
    | 0, _ => exact (Blk.new W t #[.string a]).cell 0⟩⟩
theorem strs2 (W : World) (a b : ByteArray) (t : TypeId) : StrsIn (W.alloc (.cells #[.string a, .string b] t)) (W.heap.size + 1) [a, b] (.slice (some ⟨W.heap.size, 0, none⟩) 2 2) :=
  ⟨some ⟨W.heap.size, 0, none⟩, 2, rfl, Nat.le_refl _, by decide, fun _ => ⟨W.heap.size, 0, rfl, by omega, fun i hi => by
    match i, hi with
    | 0, _ => exact (Blk.new W t #[.string a, .string b]).cell 0
    | 1, _ => exact (Blk.new W t #[.string a, .string b]).cell 1⟩⟩
theorem ints1 (W : World) (a : Int) (t : TypeId) : IntsIn (W.alloc (.cells #[.int .i64 a] t)) (W.heap.size + 1) [a] (.slice (some ⟨W.heap.size, 0, none⟩) 1 1) :=
  ⟨some ⟨W.heap.size, 0, none⟩, 1, rfl, Nat.le_refl _, by decide, fun _ => ⟨W.heap.size, 0, rfl, by omega, fun i hi => by
    match i, hi with
    | 0, _ => exact (Blk.new W t #[.int .i64 a]).cell 0⟩⟩
theorem ints2 (W : World) (a b : Int) (t : TypeId) : IntsIn (W.alloc (.cells #[.int .i64 a, .int .i64 b] t)) (W.heap.size + 1) [a, b] (.slice (some ⟨W.heap.size, 0, none⟩) 2 2) :=
  ⟨some ⟨W.heap.size, 0, none⟩, 2, rfl, Nat.le_refl _, by decide, fun _ => ⟨W.heap.size, 0, rfl, by omega, fun i hi => by
    match i, hi with
    | 0, _ => exact (Blk.new W t #[.int .i64 a, .int .i64 b]).cell 0
    | 1, _ => exact (Blk.new W t #[.int .i64 a, .int .i64 b]).cell 1⟩⟩
theorem strss1 (W : World) (B : Nat) (l : List ByteArray) (v : Value) (t : TypeId) (hB : B ≤ W.heap.size) (h : StrsIn W B l v) : StrssIn (W.alloc (.cells #[v] t)) (W.heap.size + 1) [l] (.slice (some ⟨W.heap.size, 0, none⟩) 1 1) :=
  ⟨some ⟨W.heap.size, 0, none⟩, 1, rfl, Nat.le_refl _, by decide, fun _ => ⟨W.heap.size, 0, rfl, by omega, fun i hi => by
    match i, hi with
    | 0, _ => exact ⟨v, (Blk.new W t #[v]).cell 0, (h.below ((Below.refl _ _).alloc hB _)).mono (OneR.mono _) (by omega)⟩⟩⟩

theorem strs_up {W W' : World} {l : List ByteArray} {v : Value} (h : StrsIn W W.heap.size l v) (hb : Below W.heap.size W W') : StrsIn W' W'.heap.size l v := (h.below hb).mono (OneR.mono _) hb.size
theorem strss_up {W W' : World} {l : List (List ByteArray)} {v : Value} (h : StrssIn W W.heap.size l v) (hb : Below W.heap.size W W') : StrssIn W' W'.heap.size l v := (SlIn.below (SlR.kept (OneR.kept _) 1) hb h).mono (SlR.mono (OneR.mono _) 1) hb.size

theorem exPs_except {es : List ByteArray} (h : es.length ≤ 30) : ∀ p ∈ exPs es, p.except.length ≤ 40 := by
  intro p hp
  simp only [exPs, List.mem_cons, List.not_mem_nil, or_false] at hp
  rcases hp with rfl | rfl | rfl
  · exact Nat.zero_le _
  · show 1 ≤ 40; omega
  · exact Nat.le_trans h (by decide)
theorem exPs_size {es : List ByteArray} : ∀ p ∈ exPs es, p.cond.size ≤ 1000000 := by
  intro p hp
  simp only [exPs, List.mem_cons, List.not_mem_nil, or_false] at hp
  rcases hp with rfl | rfl | rfl <;> (show Fo.size _ ≤ _; simp [exP1, exP2, exP3, flagF, Fo.size, Fo.sizeL])

/-- the law in a later world and a new block -/
theorem law_new {w1 W : World} {d : List Fa} {ps : List Pv} {v : Value} (h : LawIn w1 w1.heap.size d ps v) (hb : Below w1.heap.size w1 W) (o : Obj) : LawIn (W.alloc o) (W.heap.size + 1) d ps v := by
  have hs := hb.size
  exact ((h.below hb).below ((Below.refl _ _).alloc hs o)).mono (by omega)

/-- Applies at an example law and a case that was just made -/
theorem ex_applies {es : List ByteArray} {w1 : World} {v : Value} (hl : LawIn w1 w1.heap.size exD (exPs es) v) (hes : es.length ≤ 30) (a b er : Int) (res : List ByteArray) (hE : askE exD (exPs es) [a, b] = er)
    (hR : (if askE exD (exPs es) [a, b] = 0 then appliedL exD (exPs es) [a, b] else []) = res) (W : World) (hb : Below w1.heap.size w1 W) (t : TypeId) :
    Calls Tryz.prog 12 #[v, .slice (some ⟨W.heap.size, 0, none⟩) 2 2] (W.alloc (.cells #[.int .i64 a, .int .i64 b] t)) fun e w' => ∃ ao cap, e = .returned (.tuple #[.slice ao res.length cap, .int .i64 er]) ∧ Below W.heap.size W w' ∧
      Hid (StrsIn w' w'.heap.size res (.slice ao res.length cap)) := by
  refine (appl_any exD (exPs es) [a, b] v _ _ (W.heap.size + 1) (by show 3 ≤ _; omega) (by simp) (law_new hl hb _) (exPs_except hes) exPs_size (ints2 W a b t)).mono ?_
  rintro e w' ⟨u, rfl, hb2, hu⟩
  rw [hR] at hu
  obtain ⟨ao, cap, rfl, _⟩ := SlIn.shape hu
  exact ⟨ao, cap, by rw [hE], ((Below.refl _ _).alloc (Nat.le_refl _) _).trans (hb2.mono (by simp)), hu⟩
theorem ex_applies1 {es : List ByteArray} {w1 : World} {v : Value} (hl : LawIn w1 w1.heap.size exD (exPs es) v) (hes : es.length ≤ 30) (a er : Int) (res : List ByteArray) (hE : askE exD (exPs es) [a] = er)
    (hR : (if askE exD (exPs es) [a] = 0 then appliedL exD (exPs es) [a] else []) = res) (W : World) (hb : Below w1.heap.size w1 W) (t : TypeId) :
    Calls Tryz.prog 12 #[v, .slice (some ⟨W.heap.size, 0, none⟩) 1 1] (W.alloc (.cells #[.int .i64 a] t)) fun e w' => ∃ ao cap, e = .returned (.tuple #[.slice ao res.length cap, .int .i64 er]) ∧ Below W.heap.size W w' ∧
      Hid (StrsIn w' w'.heap.size res (.slice ao res.length cap)) := by
  refine (appl_any exD (exPs es) [a] v _ _ (W.heap.size + 1) (by show 3 ≤ _; omega) (by simp) (law_new hl hb _) (exPs_except hes) exPs_size (ints1 W a t)).mono ?_
  rintro e w' ⟨u, rfl, hb2, hu⟩
  rw [hR] at hu
  obtain ⟨ao, cap, rfl, _⟩ := SlIn.shape hu
  exact ⟨ao, cap, by rw [hE], ((Below.refl _ _).alloc (Nat.le_refl _) _).trans (hb2.mono (by simp)), hu⟩
theorem ex_blocked {es : List ByteArray} {w1 : World} {v : Value} (hl : LawIn w1 w1.heap.size exD (exPs es) v) (hes : es.length ≤ 30) (id : ByteArray) (a b er : Int) (res : List ByteArray) (hE : blkE exD (exPs es) [a, b] id = er)
    (hR : (if blkE exD (exPs es) [a, b] id = 0 then blkL exD (exPs es) [a, b] id else []) = res) (W : World) (hb : Below w1.heap.size w1 W) (t : TypeId) :
    Calls Tryz.prog 14 #[v, .string id, .slice (some ⟨W.heap.size, 0, none⟩) 2 2] (W.alloc (.cells #[.int .i64 a, .int .i64 b] t)) fun e w' => ∃ ao cap, e = .returned (.tuple #[.slice ao res.length cap, .int .i64 er]) ∧ Below W.heap.size W w' ∧
      Hid (StrsIn w' w'.heap.size res (.slice ao res.length cap)) := by
  refine (blk_any exD (exPs es) [a, b] id v _ _ (W.heap.size + 1) (by show 3 ≤ _; omega) (by simp) (law_new hl hb _) (exPs_except hes) exPs_size (ints2 W a b t)).mono ?_
  rintro e w' ⟨u, rfl, hb2, hu⟩
  rw [hR] at hu
  obtain ⟨ao, cap, rfl, _⟩ := SlIn.shape hu
  exact ⟨ao, cap, by rw [hE], ((Below.refl _ _).alloc (Nat.le_refl _) _).trans (hb2.mono (by simp)), hu⟩
theorem ex_circles {es : List ByteArray} {w1 : World} {v : Value} (hl : LawIn w1 w1.heap.size exD (exPs es) v) (hes : es.length ≤ 30) (res : List (List ByteArray)) (hR : circL (exPs es) = res) :
    Calls Tryz.prog 18 #[v] w1 fun e w' => ∃ ao cap, e = .returned (.slice ao res.length cap) ∧ Below w1.heap.size w1 w' ∧ Hid (StrssIn w' w'.heap.size res (.slice ao res.length cap)) := by
  refine (circ_any exD (exPs es) v _ w1.heap.size (by show 3 ≤ _; omega) (Nat.le_refl _) hl (exPs_except hes)).mono ?_
  rintro e w' ⟨u, rfl, hb2, hu⟩
  rw [hR] at hu
  obtain ⟨ao, cap, rfl, _⟩ := SlIn.shape hu
  exact ⟨ao, cap, rfl, hb2, hu⟩
/-- Same at equal lists -/
theorem same_eq {W : World} {l m : List ByteArray} {v u : Value} (hl : StrsIn W W.heap.size l v) (hm : StrsIn W W.heap.size m u) (h : l = m) : Calls Tryz.prog 16 #[v, u] W fun e w' => e = .returned (.bool true) ∧ Below W.heap.size W w' := by
  refine (same_any l m v u W W.heap.size hl hm).mono ?_
  rintro e w' ⟨rfl, n, rfl⟩
  exact ⟨by rw [h, sameB_self], World.drewN_below _ _ _⟩
theorem lists_eq {W : World} {l m : List (List ByteArray)} {v u : Value} (hl : StrssIn W W.heap.size l v) (hm : StrssIn W W.heap.size m u) (h : l = m) : Calls Tryz.prog 17 #[v, u] W fun e w' => e = .returned (.bool true) ∧ Below W.heap.size W w' := by
  refine (lists_any l m v u W W.heap.size hl hm).mono ?_
  rintro e w' ⟨rfl, n, rfl⟩
  refine ⟨?_, World.drewN_below _ _ _⟩
  have : ∀ l : List (List ByteArray), listsB l l = true := fun l => by
    induction l with
    | nil => rfl
    | cons a l ih => rw [listsB, sameB_self, ih]; rfl
  rw [h, this]
/-- a new block behind -/
theorem up_new (W : World) (o : Obj) : Below W.heap.size W (W.alloc o) := (Below.refl _ _).alloc (Nat.le_refl _) o

def sa : ByteArray := ⟨#[97]⟩
def sb : ByteArray := ⟨#[98]⟩
def sc : ByteArray := ⟨#[99]⟩
def sx : ByteArray := ⟨#[120]⟩
theorem v1 : askE exD (exPs [sb]) [0, 0] = 0 := by kernel_rfl
theorem v1r : (if askE exD (exPs [sb]) [0, 0] = 0 then appliedL exD (exPs [sb]) [0, 0] else []) = [sa] := by kernel_rfl
theorem v2 : askE exD (exPs [sb]) [1, 0] = 0 := by kernel_rfl
theorem v2r : (if askE exD (exPs [sb]) [1, 0] = 0 then appliedL exD (exPs [sb]) [1, 0] else []) = [sb] := by kernel_rfl
theorem v3 : askE exD (exPs [sb]) [1, 1] = 0 := by kernel_rfl
theorem v3r : (if askE exD (exPs [sb]) [1, 1] = 0 then appliedL exD (exPs [sb]) [1, 1] else []) = [sa, sc] := by kernel_rfl
theorem v4 : blkE exD (exPs [sb]) [1, 0] sa = 0 := by kernel_rfl
theorem v4r : (if blkE exD (exPs [sb]) [1, 0] sa = 0 then blkL exD (exPs [sb]) [1, 0] sa else []) = [sb] := by kernel_rfl
theorem v5 : askE exD (exPs [sb, sc]) [0, 0] = 13 := by kernel_rfl
theorem v5r : (if askE exD (exPs [sb, sc]) [0, 0] = 0 then appliedL exD (exPs [sb, sc]) [0, 0] else []) = [] := by kernel_rfl
theorem v6 : askE exD (exPs [sb]) [0] = 1 := by kernel_rfl
theorem v6r : (if askE exD (exPs [sb]) [0] = 0 then appliedL exD (exPs [sb]) [0] else []) = [] := by kernel_rfl
theorem v7 : blkE exD (exPs [sb]) [1, 0] sx = 11 := by kernel_rfl
theorem v7r : (if blkE exD (exPs [sb]) [1, 0] sx = 0 then blkL exD (exPs [sb]) [1, 0] sx else []) = [] := by kernel_rfl
theorem v8 : circL (exPs [sb, sc]) = [[sc]] := by kernel_rfl

end Go.Proofs.YtihpoecdnchioaaGreatDoor

namespace Go.Proofs.YtihpoecdnchioaaGreatDoor
open Go.RowKit Tj

/-- the law's value -/
theorem law_shape {w : World} {B : Nat} {d : List Fa} {ps : List Pv} {v : Value} (h : LawIn w B d ps v) : ∃ ad cd ap cp asn ns cs, v = .agg #[.slice ad d.length cd, .slice ap ps.length cp, .slice asn ns cs] := by
  obtain ⟨u1, u2, asn, ns, cs, rfl, hd, hp⟩ := h
  obtain ⟨ad, cd, rfl, _⟩ := SlIn.shape hd
  obtain ⟨ap, cp, rfl, _⟩ := SlIn.shape hp
  exact ⟨ad, cd, ap, cp, asn, ns, cs, rfl⟩

theorem app2 {es : List ByteArray} {w1 : World} {v : Value} (hl : LawIn w1 w1.heap.size exD (exPs es) v) (hes : es.length ≤ 30) {a b er : Int} {res : List ByteArray} (hE : askE exD (exPs es) [a, b] = er)
    (hR : (if askE exD (exPs es) [a, b] = 0 then appliedL exD (exPs es) [a, b] else []) = res) (W : World) (hb : Below w1.heap.size w1 W) (t : TypeId) (H : Nat) (hH : W.heap.size = H) :
    Calls Tryz.prog 12 #[v, .slice (some ⟨H, 0, none⟩) 2 2] (W.alloc (.cells #[.int .i64 a, .int .i64 b] t)) fun e w' => ∃ ao cap, e = .returned (.tuple #[.slice ao res.length cap, .int .i64 er]) ∧ Below W.heap.size W w' ∧
      Hid (StrsIn w' w'.heap.size res (.slice ao res.length cap)) := by
  subst hH; exact ex_applies hl hes a b er res hE hR W hb t
theorem app1 {es : List ByteArray} {w1 : World} {v : Value} (hl : LawIn w1 w1.heap.size exD (exPs es) v) (hes : es.length ≤ 30) {a er : Int} {res : List ByteArray} (hE : askE exD (exPs es) [a] = er)
    (hR : (if askE exD (exPs es) [a] = 0 then appliedL exD (exPs es) [a] else []) = res) (W : World) (hb : Below w1.heap.size w1 W) (t : TypeId) (H : Nat) (hH : W.heap.size = H) :
    Calls Tryz.prog 12 #[v, .slice (some ⟨H, 0, none⟩) 1 1] (W.alloc (.cells #[.int .i64 a] t)) fun e w' => ∃ ao cap, e = .returned (.tuple #[.slice ao res.length cap, .int .i64 er]) ∧ Below W.heap.size W w' ∧
      Hid (StrsIn w' w'.heap.size res (.slice ao res.length cap)) := by
  subst hH; exact ex_applies1 hl hes a er res hE hR W hb t
theorem blk2 {es : List ByteArray} {w1 : World} {v : Value} (hl : LawIn w1 w1.heap.size exD (exPs es) v) (hes : es.length ≤ 30) {id : ByteArray} {a b er : Int} {res : List ByteArray} (hE : blkE exD (exPs es) [a, b] id = er)
    (hR : (if blkE exD (exPs es) [a, b] id = 0 then blkL exD (exPs es) [a, b] id else []) = res) (W : World) (hb : Below w1.heap.size w1 W) (t : TypeId) (H : Nat) (hH : W.heap.size = H) :
    Calls Tryz.prog 14 #[v, .string id, .slice (some ⟨H, 0, none⟩) 2 2] (W.alloc (.cells #[.int .i64 a, .int .i64 b] t)) fun e w' => ∃ ao cap, e = .returned (.tuple #[.slice ao res.length cap, .int .i64 er]) ∧ Below W.heap.size W w' ∧
      Hid (StrsIn w' w'.heap.size res (.slice ao res.length cap)) := by
  subst hH; exact ex_blocked hl hes id a b er res hE hR W hb t
theorem sam1 {W : World} {s : ByteArray} {v : Value} (h : StrsIn W W.heap.size [s] v) (t : TypeId) (H : Nat) (hH : W.heap.size = H) :
    Calls Tryz.prog 16 #[v, .slice (some ⟨H, 0, none⟩) 1 1] (W.alloc (.cells #[.string s] t)) fun e w' => e = .returned (.bool true) ∧ Below W.heap.size W w' := by
  subst hH
  refine (same_eq (strs_up h (up_new W _)) ((strs1 W s t).mono (OneR.mono _) (by simp)) rfl).mono ?_
  rintro e w' ⟨rfl, hb⟩
  exact ⟨rfl, (up_new W _).trans (hb.mono (by simp))⟩
theorem sam2 {W : World} {s s' : ByteArray} {v : Value} (h : StrsIn W W.heap.size [s, s'] v) (t : TypeId) (H : Nat) (hH : W.heap.size = H) :
    Calls Tryz.prog 16 #[v, .slice (some ⟨H, 0, none⟩) 2 2] (W.alloc (.cells #[.string s, .string s'] t)) fun e w' => e = .returned (.bool true) ∧ Below W.heap.size W w' := by
  subst hH
  refine (same_eq (strs_up h (up_new W _)) ((strs2 W s s' t).mono (OneR.mono _) (by simp)) rfl).mono ?_
  rintro e w' ⟨rfl, hb⟩
  exact ⟨rfl, (up_new W _).trans (hb.mono (by simp))⟩
theorem lis1 {W : World} {s : ByteArray} {v : Value} (h : StrssIn W W.heap.size [[s]] v) (t t' : TypeId) (H H' : Nat) (hH : W.heap.size = H) (hH' : W.heap.size + 1 = H') :
    Calls Tryz.prog 17 #[v, .slice (some ⟨H', 0, none⟩) 1 1] ((W.alloc (.cells #[.string s] t)).alloc (.cells #[.slice (some ⟨H, 0, none⟩) 1 1] t')) fun e w' => e = .returned (.bool true) ∧ Below W.heap.size W w' := by
  subst hH; subst hH'
  have h2 := strss1 (W.alloc (.cells #[.string s] t)) (W.heap.size + 1) [s] _ t' (by simp) (strs1 W s t)
  rw [World.size_alloc] at h2
  refine (lists_eq (strss_up (strss_up h (up_new W _)) (up_new _ _)) (h2.mono (SlR.mono (OneR.mono _) 1) (by simp)) rfl).mono ?_
  rintro e w' ⟨rfl, hb⟩
  exact ⟨rfl, ((up_new W _).trans ((up_new _ _).mono (by simp))).trans (hb.mono (by simp; omega))⟩
theorem exa1 {W : World} {s : ByteArray} (t : TypeId) (H : Nat) (hH : W.heap.size = H) : Calls Tryz.prog 27 #[.slice (some ⟨H, 0, none⟩) 1 1] (W.alloc (.cells #[.string s] t)) fun e w' => ∃ v, e = .returned v ∧ Below W.heap.size W w' ∧ LawIn w' w'.heap.size exD (exPs [s]) v := by
  subst hH
  refine (example_any [s] _ _ (W.heap.size + 1) (by simp) (strs1 W s t)).mono ?_
  rintro e w' ⟨v, rfl, hb, h⟩
  exact ⟨v, rfl, (up_new W _).trans (hb.mono (by simp)), h⟩
theorem exa2 {W : World} {s s' : ByteArray} (t : TypeId) (H : Nat) (hH : W.heap.size = H) : Calls Tryz.prog 27 #[.slice (some ⟨H, 0, none⟩) 2 2] (W.alloc (.cells #[.string s, .string s'] t)) fun e w' => ∃ v, e = .returned v ∧ Below W.heap.size W w' ∧ LawIn w' w'.heap.size exD (exPs [s, s']) v := by
  subst hH
  refine (example_any [s, s'] _ _ (W.heap.size + 1) (by simp) (strs2 W s s' t)).mono ?_
  rintro e w' ⟨v, rfl, hb, h⟩
  exact ⟨v, rfl, (up_new W _).trans (hb.mono (by simp)), h⟩

section
set_option maxRecDepth 100000 in
set_option maxHeartbeats 8000000 in
theorem head_any (w : World) : Calls Tryz.prog 10 #[] w fun e w' => e = .returned (.bool true) ∧ Below w.heap.size w w' := by
  go_enter Tryz.func10, Tryz.ntmps10
  go_wp2_with (fail)
  refine (exa1 (s := sb) _ _ rfl).mono ?_
  rintro e w1 ⟨v, rfl, hb1, hl⟩
  obtain ⟨ad, cd, ap, cp, asn, ns, cs, rfl⟩ := law_shape hl
  have K0 := Blk.new w1 28 #[.slice ad exD.length cd, .slice ap (exPs [sb]).length cp, .slice asn ns cs]
  have x0 : (w1.alloc (.cells #[.slice ad exD.length cd, .slice ap (exPs [sb]).length cp, .slice asn ns cs] 28)).cell? ⟨w1.heap.size, 0, none⟩ = some (.slice ad exD.length cd) := K0.cell 0
  have x1 : (w1.alloc (.cells #[.slice ad exD.length cd, .slice ap (exPs [sb]).length cp, .slice asn ns cs] 28)).cell? ⟨w1.heap.size, 1, none⟩ = some (.slice ap (exPs [sb]).length cp) := K0.cell 1
  have x2 : (w1.alloc (.cells #[.slice ad exD.length cd, .slice ap (exPs [sb]).length cp, .slice asn ns cs] 28)).cell? ⟨w1.heap.size, 2, none⟩ = some (.slice asn ns cs) := K0.cell 2
  have hu : Below w1.heap.size w1 (w1.alloc (.cells #[.slice ad exD.length cd, .slice ap (exPs [sb]).length cp, .slice asn ns cs] 28)) := up_new _ _
  have HL1 := Lib.hid hu
  have HB1 := Lib.hid (hb1.trans (hu.mono hb1.size))
  have HL := Lib.hid hl
  clear hb1 hl K0 hu
  go_wp2_with (fail)
  refine (app2 HL.out (by decide) v1 v1r _ HL1.out _ _ (by simp)).mono ?_
  rintro e w2 ⟨a2, p2, rfl, hb2, HR2⟩
  have RA := HR2
  clear HR2
  have y2_0 := (hb2.cell (p := ⟨w1.heap.size, 0, none⟩) (by first | omega | (simp; done) | (simp; omega))).trans x0
  have y2_1 := (hb2.cell (p := ⟨w1.heap.size, 1, none⟩) (by first | omega | (simp; done) | (simp; omega))).trans x1
  have y2_2 := (hb2.cell (p := ⟨w1.heap.size, 2, none⟩) (by first | omega | (simp; done) | (simp; omega))).trans x2
  have HL2 := Lib.hid (HL1.out.trans (hb2.mono (by first | omega | (simp; done) | (simp; omega))))
  have HB2 := Lib.hid (HB1.out.trans (hb2.mono (by have h9 := HB1.out.size; first | exact h9 | (simp at h9 ⊢; omega) | (simp; omega))))
  have hs2 := hb2.size
  simp only [World.size_alloc] at hs2
  clear hb2 x0 x1 x2
  go_wp2_with (fail)
  refine (app2 HL.out (by decide) v2 v2r _ HL2.out _ _ rfl).mono ?_
  rintro e w3 ⟨a3, p3, rfl, hb3, HR3⟩
  have RB := HR3
  clear HR3
  have y3_0 := (hb3.cell (p := ⟨w1.heap.size, 0, none⟩) (by first | omega | (simp; done) | (simp; omega))).trans y2_0
  have y3_1 := (hb3.cell (p := ⟨w1.heap.size, 1, none⟩) (by first | omega | (simp; done) | (simp; omega))).trans y2_1
  have y3_2 := (hb3.cell (p := ⟨w1.heap.size, 2, none⟩) (by first | omega | (simp; done) | (simp; omega))).trans y2_2
  have HL3 := Lib.hid (HL2.out.trans (hb3.mono (by first | omega | (simp; done) | (simp; omega))))
  have HB3 := Lib.hid (HB2.out.trans (hb3.mono (by have h9 := HB2.out.size; first | exact h9 | (simp at h9 ⊢; omega) | (simp; omega))))
  have RA := Lib.hid (strs_up RA.out hb3)
  have hs3 := hb3.size
  clear hb3 y2_0 y2_1 y2_2
  go_wp2_with (fail)
  refine (app2 HL.out (by decide) v3 v3r _ HL3.out _ _ rfl).mono ?_
  rintro e w4 ⟨a4, p4, rfl, hb4, HR4⟩
  have RC := HR4
  clear HR4
  have y4_0 := (hb4.cell (p := ⟨w1.heap.size, 0, none⟩) (by first | omega | (simp; done) | (simp; omega))).trans y3_0
  have y4_1 := (hb4.cell (p := ⟨w1.heap.size, 1, none⟩) (by first | omega | (simp; done) | (simp; omega))).trans y3_1
  have y4_2 := (hb4.cell (p := ⟨w1.heap.size, 2, none⟩) (by first | omega | (simp; done) | (simp; omega))).trans y3_2
  have HL4 := Lib.hid (HL3.out.trans (hb4.mono (by first | omega | (simp; done) | (simp; omega))))
  have HB4 := Lib.hid (HB3.out.trans (hb4.mono (by have h9 := HB3.out.size; first | exact h9 | (simp at h9 ⊢; omega) | (simp; omega))))
  have RA := Lib.hid (strs_up RA.out hb4)
  have RB := Lib.hid (strs_up RB.out hb4)
  have hs4 := hb4.size
  clear hb4 y3_0 y3_1 y3_2
  go_wp2_with (fail)
  refine (blk2 HL.out (by decide) v4 v4r _ HL4.out _ _ rfl).mono ?_
  rintro e w5 ⟨a5, p5, rfl, hb5, HR5⟩
  have RD := HR5
  clear HR5
  have y5_0 := (hb5.cell (p := ⟨w1.heap.size, 0, none⟩) (by first | omega | (simp; done) | (simp; omega))).trans y4_0
  have y5_1 := (hb5.cell (p := ⟨w1.heap.size, 1, none⟩) (by first | omega | (simp; done) | (simp; omega))).trans y4_1
  have y5_2 := (hb5.cell (p := ⟨w1.heap.size, 2, none⟩) (by first | omega | (simp; done) | (simp; omega))).trans y4_2
  have HL5 := Lib.hid (HL4.out.trans (hb5.mono (by first | omega | (simp; done) | (simp; omega))))
  have HB5 := Lib.hid (HB4.out.trans (hb5.mono (by have h9 := HB4.out.size; first | exact h9 | (simp at h9 ⊢; omega) | (simp; omega))))
  have RA := Lib.hid (strs_up RA.out hb5)
  have RB := Lib.hid (strs_up RB.out hb5)
  have RC := Lib.hid (strs_up RC.out hb5)
  have hs5 := hb5.size
  clear hb5 y4_0 y4_1 y4_2
  go_wp2_with (fail)
  refine (exa2 (s := sb) (s' := sc) _ _ rfl).mono ?_
  rintro e w6 ⟨u2, rfl, hb6, hl2⟩
  obtain ⟨ad2, cd2, ap2, cp2, asn2, ns2, cs2, rfl⟩ := law_shape hl2
  have y6_0 := (hb6.cell (p := ⟨w1.heap.size, 0, none⟩) (by first | omega | (simp; done) | (simp; omega))).trans y5_0
  have y6_1 := (hb6.cell (p := ⟨w1.heap.size, 1, none⟩) (by first | omega | (simp; done) | (simp; omega))).trans y5_1
  have y6_2 := (hb6.cell (p := ⟨w1.heap.size, 2, none⟩) (by first | omega | (simp; done) | (simp; omega))).trans y5_2
  have HL6 := Lib.hid (HL5.out.trans (hb6.mono (by first | omega | (simp; done) | (simp; omega))))
  have HB6 := Lib.hid (HB5.out.trans (hb6.mono (by have h9 := HB5.out.size; first | exact h9 | (simp at h9 ⊢; omega) | (simp; omega))))
  have RA := Lib.hid (strs_up RA.out hb6)
  have RB := Lib.hid (strs_up RB.out hb6)
  have RC := Lib.hid (strs_up RC.out hb6)
  have RD := Lib.hid (strs_up RD.out hb6)
  have hs6 := hb6.size
  clear hb6 y5_0 y5_1 y5_2
  go_wp2_with (fail)
  refine (app2 hl2 (by decide) v5 v5r _ (Below.refl _ _) _ _ rfl).mono ?_
  rintro e w7 ⟨a7, p7, rfl, hb7, HR7⟩
  clear HR7 hl2
  have y7_0 := (hb7.cell (p := ⟨w1.heap.size, 0, none⟩) (by first | omega | (simp; done) | (simp; omega))).trans y6_0
  have y7_1 := (hb7.cell (p := ⟨w1.heap.size, 1, none⟩) (by first | omega | (simp; done) | (simp; omega))).trans y6_1
  have y7_2 := (hb7.cell (p := ⟨w1.heap.size, 2, none⟩) (by first | omega | (simp; done) | (simp; omega))).trans y6_2
  have HL7 := Lib.hid (HL6.out.trans (hb7.mono (by first | omega | (simp; done) | (simp; omega))))
  have HB7 := Lib.hid (HB6.out.trans (hb7.mono (by have h9 := HB6.out.size; first | exact h9 | (simp at h9 ⊢; omega) | (simp; omega))))
  have RA := Lib.hid (strs_up RA.out hb7)
  have RB := Lib.hid (strs_up RB.out hb7)
  have RC := Lib.hid (strs_up RC.out hb7)
  have RD := Lib.hid (strs_up RD.out hb7)
  have hs7 := hb7.size
  clear hb7 y6_0 y6_1 y6_2
  go_wp2_with (fail)
  refine (app1 HL.out (by decide) v6 v6r _ HL7.out _ _ rfl).mono ?_
  rintro e w8 ⟨a8, p8, rfl, hb8, HR8⟩
  clear HR8
  have y8_0 := (hb8.cell (p := ⟨w1.heap.size, 0, none⟩) (by first | omega | (simp; done) | (simp; omega))).trans y7_0
  have y8_1 := (hb8.cell (p := ⟨w1.heap.size, 1, none⟩) (by first | omega | (simp; done) | (simp; omega))).trans y7_1
  have y8_2 := (hb8.cell (p := ⟨w1.heap.size, 2, none⟩) (by first | omega | (simp; done) | (simp; omega))).trans y7_2
  have HL8 := Lib.hid (HL7.out.trans (hb8.mono (by first | omega | (simp; done) | (simp; omega))))
  have HB8 := Lib.hid (HB7.out.trans (hb8.mono (by have h9 := HB7.out.size; first | exact h9 | (simp at h9 ⊢; omega) | (simp; omega))))
  have RA := Lib.hid (strs_up RA.out hb8)
  have RB := Lib.hid (strs_up RB.out hb8)
  have RC := Lib.hid (strs_up RC.out hb8)
  have RD := Lib.hid (strs_up RD.out hb8)
  have hs8 := hb8.size
  clear hb8 y7_0 y7_1 y7_2
  go_wp2_with (fail)
  refine (blk2 HL.out (by decide) v7 v7r _ HL8.out _ _ rfl).mono ?_
  rintro e w9 ⟨a9, p9, rfl, hb9, HR9⟩
  clear HR9
  have HB9 := Lib.hid (HB8.out.trans (hb9.mono (by have h9 := HB8.out.size; first | exact h9 | (simp at h9 ⊢; omega) | (simp; omega))))
  have RA := Lib.hid (strs_up RA.out hb9)
  have RB := Lib.hid (strs_up RB.out hb9)
  have RC := Lib.hid (strs_up RC.out hb9)
  have RD := Lib.hid (strs_up RD.out hb9)
  have hs9 := hb9.size
  clear hb9
  clear y8_0 y8_1 y8_2 HL8 HL
  go_wp2_with (fail)
  refine (sam1 RA.out _ _ rfl).mono ?_
  rintro e w10 ⟨rfl, hb10⟩
  clear RA
  have HB10 := Lib.hid (HB9.out.trans (hb10.mono (by have h9 := HB9.out.size; first | exact h9 | (simp at h9 ⊢; omega) | (simp; omega))))
  have RB := Lib.hid (strs_up RB.out hb10)
  have RC := Lib.hid (strs_up RC.out hb10)
  have RD := Lib.hid (strs_up RD.out hb10)
  have hs10 := hb10.size
  clear hb10
  go_wp2_with (fail)
  refine (sam1 RB.out _ _ rfl).mono ?_
  rintro e w11 ⟨rfl, hb11⟩
  clear RB
  have HB11 := Lib.hid (HB10.out.trans (hb11.mono (by have h9 := HB10.out.size; first | exact h9 | (simp at h9 ⊢; omega) | (simp; omega))))
  have RC := Lib.hid (strs_up RC.out hb11)
  have RD := Lib.hid (strs_up RD.out hb11)
  have hs11 := hb11.size
  clear hb11
  go_wp2_with (fail)
  refine (sam2 RC.out _ _ rfl).mono ?_
  rintro e w12 ⟨rfl, hb12⟩
  clear RC
  have HB12 := Lib.hid (HB11.out.trans (hb12.mono (by have h9 := HB11.out.size; first | exact h9 | (simp at h9 ⊢; omega) | (simp; omega))))
  have RD := Lib.hid (strs_up RD.out hb12)
  have hs12 := hb12.size
  clear hb12
  go_wp2_with (fail)
  refine (sam1 RD.out _ _ rfl).mono ?_
  rintro e w13 ⟨rfl, hb13⟩
  clear RD
  have HB13 := Lib.hid (HB12.out.trans (hb13.mono (by have h9 := HB12.out.size; first | exact h9 | (simp at h9 ⊢; omega) | (simp; omega))))
  have hs13 := hb13.size
  clear hb13
  go_wp2_with (fail)
  refine (exa2 (s := sb) (s' := sc) _ _ rfl).mono ?_
  rintro e w14 ⟨u3, rfl, hb14, hl3⟩
  obtain ⟨ad3, cd3, ap3, cp3, asn3, ns3, cs3, rfl⟩ := law_shape hl3
  have HB14 := Lib.hid (HB13.out.trans (hb14.mono (by have h9 := HB13.out.size; first | exact h9 | (simp at h9 ⊢; omega) | (simp; omega))))
  have hs14 := hb14.size
  clear hb14
  go_wp2_with (fail)
  refine (ex_circles hl3 (by decide) [[sc]] v8).mono ?_
  rintro e w15 ⟨a15, p15, rfl, hb15, HR15⟩
  have HB15 := Lib.hid (HB14.out.trans (hb15.mono (by have h9 := HB14.out.size; first | exact h9 | (simp at h9 ⊢; omega) | (simp; omega))))
  have hs15 := hb15.size
  clear hb15
  go_wp2_with (fail)
  refine (lis1 HR15.out _ _ _ _ rfl rfl).mono ?_
  rintro e w16 ⟨rfl, hb16⟩
  have HB16 := Lib.hid (HB15.out.trans (hb16.mono (by have h9 := HB15.out.size; first | exact h9 | (simp at h9 ⊢; omega) | (simp; omega))))
  have hs16 := hb16.size
  clear hb16
  go_wp2
  go_ret
  exact ⟨rfl, HB16.out⟩
end

end Go.Proofs.YtihpoecdnchioaaGreatDoor

