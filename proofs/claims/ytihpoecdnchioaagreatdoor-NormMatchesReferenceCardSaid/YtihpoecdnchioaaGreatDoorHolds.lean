/- The walks of formula.Check and formula.Holds. A bound on the number of nodes. -/
import Derived.Test.YtihpoecdnchioaaGreatDoorCheck
import Derived.Test.YtihpoecdnchioaaGreatDoorSl
import Derived.Deep.RegionHeld3
namespace Go.Proofs.YtihpoecdnchioaaGreatDoor
open Go.RowKit

mutual
/-- whether a well-formed formula holds for a case -/
def valF (d : List Fa) (c : List Int) (ts : List ByteArray) : Fo → Bool
  | .mk op nm cm n ks =>
    if op = 3 then cmpB (c.getD (idxD d nm).toNat 0) cm n
    else if op = 4 then ts.any fun x => eqB nm x
    else if op = 5 then !((valL d c ts ks).headD false)
    else if op = 6 then (valL d c ts ks).all id
    else if op = 7 then (valL d c ts ks).any id
    else op == 1
def valL (d : List Fa) (c : List Int) (ts : List ByteArray) : List Fo → List Bool
  | [] => []
  | k :: ks => valF d c ts k :: valL d c ts ks
end
theorem valL_eq (d : List Fa) (c : List Int) (ts : List ByteArray) : ∀ ks, valL d c ts ks = ks.map (valF d c ts)
  | [] => rfl
  | k :: ks => by rw [valL, List.map_cons, valL_eq d c ts ks]

/-- whether a formula holds for a case if just the given terms do -/
def holdsF (f : Fo) (d : List Fa) (c : List Int) (ts : List ByteArray) : Bool := decide (checkF f d (fun _ => true) = 0) && fitsD d c && valF d c ts f

/-- no node has a fault -/
def Good (d : List Fa) (f : Fo) : Prop := ∀ x ∈ nodesL f, nodeErr d (fun _ => true) x = 0
theorem nodesL_self (f : Fo) : f ∈ nodesL f := by obtain ⟨op, nm, c, n, ks⟩ := f; simp [nodesL]
theorem nodesLL_mem (ks : List Fo) (k x : Fo) (hk : k ∈ ks) (hx : x ∈ nodesL k) : x ∈ nodesLL ks := by
  induction ks with
  | nil => cases hk
  | cons a ks ih =>
    rw [nodesLL, List.mem_append]
    rcases List.mem_cons.1 hk with rfl | hk
    · exact .inl hx
    · exact .inr (ih hk)
theorem Good.kid {d : List Fa} {op c n : Int} {nm : ByteArray} {ks : List Fo} (h : Good d (.mk op nm c n ks)) {k : Fo} (hk : k ∈ ks) : Good d k :=
  fun x hx => h x (by rw [nodesL]; exact List.mem_cons_of_mem _ (nodesLL_mem ks k x hk hx))
theorem good_of_check {d : List Fa} {f : Fo} (h : checkF f d (fun _ => true) = 0) : Good d f := by
  unfold checkF at h
  split at h
  · cases h
  · have : ∀ l, firstErr d (fun _ => true) l = 0 → ∀ x ∈ l, nodeErr d (fun _ => true) x = 0 := by
      intro l
      induction l with
      | nil => intro _ x hx; cases hx
      | cons a l ih =>
        intro h x hx
        rw [firstErr] at h
        by_cases ha : nodeErr d (fun _ => true) a = 0
        · rw [if_pos ha] at h
          rcases List.mem_cons.1 hx with rfl | hx
          · exact ha
          · exact ih h x hx
        · rw [if_neg ha] at h; exact absurd h ha
    exact fun x hx => this _ h x hx

theorem idxFrom_bd {α : Type} (p : α → Bool) : ∀ (l : List α) (k : Int), idxFrom p l k = -1 ∨ (k ≤ idxFrom p l k ∧ idxFrom p l k < k + l.length)
  | [], k => .inl rfl
  | x :: l, k => by
    rw [idxFrom]
    split
    · right; simp; omega
    · rcases idxFrom_bd p l (k + 1) with h | h
      · exact .inl h
      · right; simp; omega

/-- what a node without a fault is like -/
theorem formed_cases {op c n : Int} {nm : ByteArray} {ks : List Fo} (h : formedB (.mk op nm c n ks) = true) :
    (op = 1 ∨ op = 2) ∨ (op = 3 ∧ 1 ≤ c ∧ c ≤ 6) ∨ op = 4 ∨ (op = 5 ∧ ks.length = 1) ∨ op = 6 ∨ op = 7 := by
  have HR : formedB (.mk op nm c n ks) = if badB (.mk op nm c n ks) = true then false
    else if op = 1 ∨ op = 2 then decide (ks.length = 0)
    else if op = 3 then ((decide (ks.length = 0) && nameB nm) && decide (1 ≤ c)) && decide (c ≤ 6)
    else if op = 4 then decide (ks.length = 0) && nameB nm
    else if op = 5 then decide (ks.length = 1)
    else if op = 6 ∨ op = 7 then decide (2 ≤ ks.length)
    else false := rfl
  rw [HR] at h
  clear HR
  by_cases hb : badB (.mk op nm c n ks) = true
  · rw [if_pos hb] at h; cases h
  rw [if_neg hb] at h
  by_cases h1 : op = 1 ∨ op = 2
  · exact .inl h1
  rw [if_neg h1] at h
  by_cases h3 : op = 3
  · rw [if_pos h3] at h
    simp only [Bool.and_eq_true, decide_eq_true_iff] at h
    exact .inr (.inl ⟨h3, h.1.2, h.2⟩)
  rw [if_neg h3] at h
  by_cases h4 : op = 4
  · exact .inr (.inr (.inl h4))
  rw [if_neg h4] at h
  by_cases h5 : op = 5
  · rw [if_pos h5] at h
    exact .inr (.inr (.inr (.inl ⟨h5, by simpa using h⟩)))
  rw [if_neg h5] at h
  by_cases h6 : op = 6 ∨ op = 7
  · exact .inr (.inr (.inr (.inr h6)))
  · rw [if_neg h6] at h; cases h
theorem node_cases {d : List Fa} {op c n : Int} {nm : ByteArray} {ks : List Fo} (h : nodeErr d (fun _ => true) (.mk op nm c n ks) = 0) :
    (op = 1 ∨ op = 2) ∨ (op = 3 ∧ 1 ≤ c ∧ c ≤ 6 ∧ ∃ k : Nat, idxD d nm = k ∧ k < d.length) ∨ op = 4 ∨ (op = 5 ∧ ∃ k, ks = [k]) ∨ op = 6 ∨ op = 7 := by
  have HR : nodeErr d (fun _ => true) (.mk op nm c n ks) = if formedB (.mk op nm c n ks) = false then 1 else if op = 3 ∧ (n < 0 ∨ 1000000 < n) then 10 else if (op = 3 ∧ idxD d nm < 0) ∨ (op = 4 ∧ true = false) then 7 else 0 := rfl
  rw [HR] at h
  clear HR
  by_cases hf : formedB (.mk op nm c n ks) = false
  · rw [if_pos hf] at h; cases h
  rw [if_neg hf] at h
  by_cases hr : op = 3 ∧ (n < 0 ∨ 1000000 < n)
  · rw [if_pos hr] at h; cases h
  rw [if_neg hr] at h
  by_cases hi : op = 3 ∧ idxD d nm < 0
  · rw [if_pos (.inl hi)] at h; cases h
  rcases formed_cases (by simpa using hf) with h1 | ⟨h1, h2, h3⟩ | h1 | ⟨h1, h2⟩ | h1 | h1
  · exact .inl h1
  · have h4 : ¬ idxD d nm < 0 := fun e => hi ⟨h1, e⟩
    refine .inr (.inl ⟨h1, h2, h3, (idxD d nm).toNat, by omega, ?_⟩)
    rcases idxFrom_bd (fun f : Fa => eqB f.name nm) d 0 with h5 | h5
    · exact absurd (show idxD d nm < 0 by unfold idxD; omega) h4
    · unfold idxD at *; omega
  · exact .inr (.inr (.inl h1))
  · obtain ⟨k, rfl⟩ := List.length_eq_one_iff.1 h2
    exact .inr (.inr (.inr (.inl ⟨h1, k, rfl⟩)))
  · exact .inr (.inr (.inr (.inr (.inl h1))))
  · exact .inr (.inr (.inr (.inr (.inr h1))))

/-- what the closure of Holds has captured: the case, the domain, the terms, itself -/
structure EnvH (d : List Fa) (c : List Int) (ts : List ByteArray) (H cb db tb hb : Nat) (w : World) : Prop where
  size : H ≤ w.heap.size
  c : cb < H ∧ ∃ ao cap, w.cell? ⟨cb, 0, none⟩ = some (.slice ao c.length cap) ∧ IntsIn w H c (.slice ao c.length cap)
  d : db < H ∧ ∃ ao cap, w.cell? ⟨db, 0, none⟩ = some (.slice ao d.length cap) ∧ DomIn w H d (.agg #[.slice ao d.length cap])
  t : tb < H ∧ ∃ ao cap, w.cell? ⟨tb, 0, none⟩ = some (.slice ao ts.length cap) ∧ StrsIn w H ts (.slice ao ts.length cap)
  h : hb < H ∧ w.cell? ⟨hb, 0, none⟩ = some (.func (.func 36) #[] #[.pointer (some ⟨cb, 0, none⟩), .pointer (some ⟨db, 0, none⟩), .pointer (some ⟨tb, 0, none⟩), .pointer (some ⟨hb, 0, none⟩)])
theorem EnvH.below {d : List Fa} {c : List Int} {ts : List ByteArray} {H cb db tb hb : Nat} {w w' : World} (h : EnvH d c ts H cb db tb hb w) (hb' : Below H w w') : EnvH d c ts H cb db tb hb w' := by
  obtain ⟨h0, ⟨h1, a1, c1, h2, h3⟩, ⟨h4, a2, c2, h5, h6⟩, ⟨h7, a3, c3, h8, h9⟩, ⟨h10, h11⟩⟩ := h
  exact ⟨Nat.le_trans h0 hb'.size, ⟨h1, a1, c1, (hb'.cell (p := ⟨cb, 0, none⟩) h1).trans h2, h3.below hb'⟩, ⟨h4, a2, c2, (hb'.cell (p := ⟨db, 0, none⟩) h4).trans h5, h6.below hb'⟩,
    ⟨h7, a3, c3, (hb'.cell (p := ⟨tb, 0, none⟩) h7).trans h8, h9.below hb'⟩, ⟨h10, (hb'.cell (p := ⟨hb, 0, none⟩) h10).trans h11⟩⟩

theorem keepS {W1 W' w4 : World} {n : Nat} (h : Hid (Below n W1 W')) (hs : n ≤ W'.heap.size) (hb : Below W'.heap.size W' w4) : Hid (Below n W1 w4) := h.out.trans (hb.mono hs)

set_option maxRecDepth 100000 in
set_option maxHeartbeats 4000000 in
theorem holdsC_any (d : List Fa) (c : List Int) (ts : List ByteArray) (hcd : c.length = d.length) (H cb db tb hb : Nat) (N : Nat) : ∀ (f : Fo) (v : Value) (w : World), f.size ≤ N → Good d f → EnvH d c ts H cb db tb hb w → f.In w H v →
    Calls Tryz.prog 36 #[v, .pointer (some ⟨cb, 0, none⟩), .pointer (some ⟨db, 0, none⟩), .pointer (some ⟨tb, 0, none⟩), .pointer (some ⟨hb, 0, none⟩)] w fun e w' => e = .returned (.bool (valF d c ts f)) ∧ Below w.heap.size w w' := by
  induction N with
  | zero => intro f _ _ h; have := f.size_pos; omega
  | succ N ih =>
  intro f v w hN hg he hf
  have IH := Lib.hid ih
  clear ih
  obtain ⟨op, nm, cm, n, ks⟩ := f
  have HF := Lib.hid hf
  obtain ⟨ao, cap, rfl, _, _, _, hnm, h5, h6, h7⟩ := hf
  have H7 := Lib.hid h7
  have HG := Lib.hid hg
  have HE0 := Lib.hid he
  have hcase := node_cases (hg _ (nodesL_self _))
  have hV : Hid (valF d c ts (.mk op nm cm n ks) = if op = 3 then cmpB (c.getD (idxD d nm).toNat 0) cm n else if op = 4 then ts.any fun x => eqB nm x else if op = 5 then !((valL d c ts ks).headD false) else if op = 6 then (valL d c ts ks).all id
    else if op = 7 then (valL d c ts ks).any id else op == 1) := by show _ = _; rw [valF]
  generalize valF d c ts (.mk op nm cm n ks) = R at *
  have hb1 : Below w.heap.size w (w.alloc (.cells #[.int .i64 op, .string nm, .int .i64 cm, .int .i64 n, .slice ao ks.length cap] 44)) := (Below.refl _ _).alloc (Nat.le_refl _) _
  have he1 := he.below (hb1.mono he.size)
  have HB1 := Lib.hid hb1
  have HE1 := Lib.hid he1
  have hsz := he.size
  obtain ⟨_, ⟨l1, a1, p1, q1, r1⟩, ⟨l2, a2, p2, q2, r2⟩, ⟨l3, a3, p3, q3, r3⟩, ⟨l4, q4⟩⟩ := he
  have R1 := Lib.hid r1
  have R2 := Lib.hid r2
  have R3 := Lib.hid r3
  clear h7 hg hb1 he1 r1 r2 r3
  rcases hcase with h1 | ⟨rfl, g1, g2, k, hk, hkd⟩ | rfl | ⟨rfl, k, rfl⟩ | rfl | rfl
  · rcases h1 with rfl | rfl
    all_goals
      have HS := Lib.hid hV.out
      simp at HS
      clear hV
      go_enter Tryz.func36, Tryz.ntmps36
      go_wp2
      go_ret
      exact ⟨ret_bool (by rw [HS.out]), HB1.out⟩
  · have hkc : k < c.length := by omega
    obtain ⟨b, off, rfl, hbH, hcc⟩ := SlIn.one R1.out k hkc
    have HS : Hid (R = cmpB c[k] cm n) := by
      have h := hV.out
      rw [if_pos rfl, hk, Int.toNat_natCast, List.getD_eq_getElem?_getD, List.getElem?_eq_getElem hkc] at h
      exact h
    have HI : Hid (∀ W, Below (w.heap.size + 1) (w.alloc (.cells #[.int .i64 3, .string nm, .int .i64 cm, .int .i64 n, .slice ao ks.length cap] 44)) W → Calls Tryz.prog 38 #[.agg #[.slice a2 d.length p2], .string nm] W fun e w' => e = .returned (.int .i64 k) ∧ Below W.heap.size W w') := by
      intro W hW
      have hWs := hW.size
      simp only [World.size_alloc] at hWs
      have h := index_any d nm _ W H (by omega) (R2.out.below ((HB1.out.mono hsz).trans (hW.mono (by omega : H ≤ w.heap.size + 1))))
      rw [hk] at h
      exact h
    have hk0 : (0 : Int) ≤ (k : Int) := Int.natCast_nonneg _
    have hk1 : (k : Int) < (c.length : Int) := by omega
    generalize c[k] = ck at *
    clear hV hk
    go_enter Tryz.func36, Tryz.ntmps36
    go_wp2
    have HY : Hid ((w.alloc (.cells #[.int .i64 3, .string nm, .int .i64 cm, .int .i64 n, .slice ao ks.length cap] 44)).cell? ⟨cb, 0, none⟩ = some (.slice (some ⟨b, off, none⟩) c.length p1) ∧ (w.alloc (.cells #[.int .i64 3, .string nm, .int .i64 cm, .int .i64 n, .slice ao ks.length cap] 44)).cell? ⟨db, 0, none⟩ = some (.slice a2 d.length p2) ∧ (w.alloc (.cells #[.int .i64 3, .string nm, .int .i64 cm, .int .i64 n, .slice ao ks.length cap] 44)).cell? ⟨w.heap.size, 1, none⟩ = some (.string nm) ∧
       (w.alloc (.cells #[.int .i64 3, .string nm, .int .i64 cm, .int .i64 n, .slice ao ks.length cap] 44)).cell? ⟨w.heap.size, 2, none⟩ = some (.int .i64 cm) ∧ (w.alloc (.cells #[.int .i64 3, .string nm, .int .i64 cm, .int .i64 n, .slice ao ks.length cap] 44)).cell? ⟨w.heap.size, 3, none⟩ = some (.int .i64 n) ∧ (w.alloc (.cells #[.int .i64 3, .string nm, .int .i64 cm, .int .i64 n, .slice ao ks.length cap] 44)).cell? ⟨b, off + k, none⟩ = some (.int .i64 ck)) :=
      ⟨(HB1.out.cell (by simp; omega)).trans q1, (HB1.out.cell (by simp; omega)).trans q2, Blk.cell (Blk.new w 44 _) 1, Blk.cell (Blk.new w 44 _) 2, Blk.cell (Blk.new w 44 _) 3, (HB1.out.cell (by simp; omega)).trans hcc⟩
    have HW0 : Hid (Below (w.heap.size + 1) (w.alloc (.cells #[.int .i64 3, .string nm, .int .i64 cm, .int .i64 n, .slice ao ks.length cap] 44)) (w.alloc (.cells #[.int .i64 3, .string nm, .int .i64 cm, .int .i64 n, .slice ao ks.length cap] 44)).drew) := (Below.refl _ _).drew
    go_region_held3 (fun w' => w'.cell? ⟨cb, 0, none⟩ = some (.slice (some ⟨b, off, none⟩) c.length p1) ∧ w'.cell? ⟨db, 0, none⟩ = some (.slice a2 d.length p2) ∧ w'.cell? ⟨w.heap.size, 1, none⟩ = some (.string nm) ∧
       w'.cell? ⟨w.heap.size, 2, none⟩ = some (.int .i64 cm) ∧ w'.cell? ⟨w.heap.size, 3, none⟩ = some (.int .i64 n) ∧ w'.cell? ⟨b, off + k, none⟩ = some (.int .i64 ck) ∧ Hid (Below (w.heap.size + 1) (w.alloc (.cells #[.int .i64 3, .string nm, .int .i64 cm, .int .i64 n, .slice ao ks.length cap] 44)) w') ∧ w.heap.size + 1 ≤ w'.heap.size)
      (first
        | (go_split_ands
           have hBW := keepS (n := w.heap.size + 1) (W1 := w.alloc (.cells #[.int .i64 3, .string nm, .int .i64 cm, .int .i64 n, .slice ao ks.length cap] 44)) (by assumption) (by assumption) hb4
           have hzz := hBW.out.size
           simp only [World.size_alloc] at hzz
           obtain ⟨y1, y2, y3, y4, y5, y6⟩ := HY.out
           exact ⟨(hBW.out.cell (by simp; omega)).trans y1, (hBW.out.cell (by simp; omega)).trans y2, (hBW.out.cell (by simp)).trans y3, (hBW.out.cell (by simp)).trans y4, (hBW.out.cell (by simp)).trans y5, (hBW.out.cell (by simp; omega)).trans y6, hBW, hzz⟩)
        | go_keep)
      (first
        | (go_at_call 38; refine (HI.out _ ?_).mono ?_; exact (by assumption : Hid (Below (w.heap.size + 1) (w.alloc (.cells #[.int .i64 3, .string nm, .int .i64 cm, .int .i64 n, .slice ao ks.length cap] 44)) _)).out; rintro e w4 ⟨rfl, hb4⟩)
        | (go_at_call 37; refine (compare_any _ _ _ _ g1 g2).mono ?_; rintro e w5 ⟨rfl, rfl⟩))
    go_wp2
    go_ret
    go_split_ands
    exact ⟨ret_bool HS.out.symm, HB1.out.trans ((by assumption : Hid (Below (w.heap.size + 1) (w.alloc (.cells #[.int .i64 3, .string nm, .int .i64 cm, .int .i64 n, .slice ao ks.length cap] 44)) w4)).out.mono (by omega))⟩
  · have HS : Hid (R = ts.any fun x => eqB nm x) := by
      have h := hV.out
      rw [if_neg (by decide), if_pos rfl] at h
      exact h
    have HC := Lib.hid (fun W (hW : Below w.heap.size w W) => containsStr_any ts nm _ W H (R3.out.below (hW.mono hsz)))
    generalize ts.any (fun x => eqB nm x) = RR at *
    clear hV
    go_enter Tryz.func36, Tryz.ntmps36
    have htb : tb < w.heap.size := by omega
    go_wp2_with (go_at_call 39; refine (HC.out _ HB1.out).mono ?_; rintro e w4 ⟨rfl, rfl⟩)
    go_ret
    exact ⟨ret_bool HS.out.symm, HB1.out⟩
  · have HS : Hid (R = !valF d c ts k) := by
      have h := hV.out
      rw [if_neg (by decide), if_neg (by decide), if_pos rfl, valL] at h
      exact h
    obtain ⟨b, off, rfl, hbH, hL⟩ := H7.out (by simp)
    obtain ⟨ka, kc, y1, y2, y3, y4, y5, gk⟩ := Fo.InL.get [k] off 0 (by simp) (Fo.InL.below (HB1.out.mono hsz) hbH _ _ hL)
    simp only [Nat.zero_mul, Nat.add_zero, List.getElem_cons_zero] at y1 y2 y3 y4 y5 gk
    have hks : k.size ≤ N := by rw [Fo.size, Fo.sizeL, Fo.sizeL] at hN; omega
    have HI : Hid (∀ W, Below (w.heap.size + 1) (w.alloc (.cells #[.int .i64 5, .string nm, .int .i64 cm, .int .i64 n, .slice (some ⟨b, off, none⟩) 1 cap] 44)) W → Calls Tryz.prog 36 #[.agg #[.int .i64 k.op, .string k.name, .int .i64 k.cmp, .int .i64 k.n, .slice ka k.kids.length kc], .pointer (some ⟨cb, 0, none⟩), .pointer (some ⟨db, 0, none⟩), .pointer (some ⟨tb, 0, none⟩), .pointer (some ⟨hb, 0, none⟩)] W fun e w' => e = .returned (.bool (valF d c ts k)) ∧ Below W.heap.size W w') :=
      fun W hW => IH.out k _ W hks (HG.out.kid (by simp)) (HE1.out.below (hW.mono (by omega))) (Fo.In.below (hW.mono (by omega)) _ _ gk)
    generalize valF d c ts k = vk at *
    have HY : Hid ((w.alloc (.cells #[.int .i64 5, .string nm, .int .i64 cm, .int .i64 n, .slice (some ⟨b, off, none⟩) 1 cap] 44)).cell? ⟨hb, 0, none⟩ = some (.func (.func 36) #[] #[.pointer (some ⟨cb, 0, none⟩), .pointer (some ⟨db, 0, none⟩), .pointer (some ⟨tb, 0, none⟩), .pointer (some ⟨hb, 0, none⟩)]) ∧
       (w.alloc (.cells #[.int .i64 5, .string nm, .int .i64 cm, .int .i64 n, .slice (some ⟨b, off, none⟩) 1 cap] 44)).cell? ⟨w.heap.size, 4, none⟩ = some (.slice (some ⟨b, off, none⟩) 1 cap) ∧ (w.alloc (.cells #[.int .i64 5, .string nm, .int .i64 cm, .int .i64 n, .slice (some ⟨b, off, none⟩) 1 cap] 44)).cell? ⟨b, off, none⟩ = some (.int .i64 k.op) ∧ (w.alloc (.cells #[.int .i64 5, .string nm, .int .i64 cm, .int .i64 n, .slice (some ⟨b, off, none⟩) 1 cap] 44)).cell? ⟨b, off + 1, none⟩ = some (.string k.name) ∧
       (w.alloc (.cells #[.int .i64 5, .string nm, .int .i64 cm, .int .i64 n, .slice (some ⟨b, off, none⟩) 1 cap] 44)).cell? ⟨b, off + 2, none⟩ = some (.int .i64 k.cmp) ∧ (w.alloc (.cells #[.int .i64 5, .string nm, .int .i64 cm, .int .i64 n, .slice (some ⟨b, off, none⟩) 1 cap] 44)).cell? ⟨b, off + 3, none⟩ = some (.int .i64 k.n) ∧ (w.alloc (.cells #[.int .i64 5, .string nm, .int .i64 cm, .int .i64 n, .slice (some ⟨b, off, none⟩) 1 cap] 44)).cell? ⟨b, off + 4, none⟩ = some (.slice ka k.kids.length kc)) :=
      ⟨(HB1.out.cell (by simp; omega)).trans q4, Blk.cell (Blk.new w 44 _) 4, y1, y2, y3, y4, y5⟩
    have HW0 : Hid (Below (w.heap.size + 1) (w.alloc (.cells #[.int .i64 5, .string nm, .int .i64 cm, .int .i64 n, .slice (some ⟨b, off, none⟩) 1 cap] 44)) (w.alloc (.cells #[.int .i64 5, .string nm, .int .i64 cm, .int .i64 n, .slice (some ⟨b, off, none⟩) 1 cap] 44)).drew) := (Below.refl _ _).drew
    clear hV hL gk
    go_enter Tryz.func36, Tryz.ntmps36
    go_wp2
    go_region_held3 (fun w' => w'.cell? ⟨hb, 0, none⟩ = some (.func (.func 36) #[] #[.pointer (some ⟨cb, 0, none⟩), .pointer (some ⟨db, 0, none⟩), .pointer (some ⟨tb, 0, none⟩), .pointer (some ⟨hb, 0, none⟩)]) ∧
       w'.cell? ⟨w.heap.size, 4, none⟩ = some (.slice (some ⟨b, off, none⟩) 1 cap) ∧ w'.cell? ⟨b, off, none⟩ = some (.int .i64 k.op) ∧ w'.cell? ⟨b, off + 1, none⟩ = some (.string k.name) ∧
       w'.cell? ⟨b, off + 2, none⟩ = some (.int .i64 k.cmp) ∧ w'.cell? ⟨b, off + 3, none⟩ = some (.int .i64 k.n) ∧ w'.cell? ⟨b, off + 4, none⟩ = some (.slice ka k.kids.length kc) ∧
       Hid (Below (w.heap.size + 1) (w.alloc (.cells #[.int .i64 5, .string nm, .int .i64 cm, .int .i64 n, .slice (some ⟨b, off, none⟩) 1 cap] 44)) w') ∧ w.heap.size + 1 ≤ w'.heap.size)
      (first
        | (go_split_ands
           have hBW := keepS (n := w.heap.size + 1) (W1 := w.alloc (.cells #[.int .i64 5, .string nm, .int .i64 cm, .int .i64 n, .slice (some ⟨b, off, none⟩) 1 cap] 44)) (by assumption) (by assumption) hb4
           have hzz := hBW.out.size
           simp only [World.size_alloc] at hzz
           obtain ⟨y1, y2, y3, y4, y5, y6, y7⟩ := HY.out
           exact ⟨(hBW.out.cell (by simp; omega)).trans y1, (hBW.out.cell (by simp)).trans y2, (hBW.out.cell (by simp; omega)).trans y3, (hBW.out.cell (by simp; omega)).trans y4, (hBW.out.cell (by simp; omega)).trans y5, (hBW.out.cell (by simp; omega)).trans y6, (hBW.out.cell (by simp; omega)).trans y7, hBW, hzz⟩)
        | exact ⟨HY.out.1, HY.out.2.1, HY.out.2.2.1, HY.out.2.2.2.1, HY.out.2.2.2.2.1, HY.out.2.2.2.2.2.1, HY.out.2.2.2.2.2.2, HW0, by simp⟩
        | go_keep)
      ((go_at_call 36; refine (HI.out _ ?_).mono ?_; exact (by assumption : Hid (Below (w.heap.size + 1) (w.alloc (.cells #[.int .i64 5, .string nm, .int .i64 cm, .int .i64 n, .slice (some ⟨b, off, none⟩) 1 cap] 44)) _)).out; rintro e w4 ⟨rfl, hb4⟩))
    go_wp2
    go_ret
    go_split_ands
    exact ⟨ret_bool HS.out.symm, HB1.out.trans ((by assumption : Hid (Below (w.heap.size + 1) (w.alloc (.cells #[.int .i64 5, .string nm, .int .i64 cm, .int .i64 n, .slice (some ⟨b, off, none⟩) 1 cap] 44)) w4)).out.mono (by omega))⟩
  · have HS : Hid (R = !(ks.any fun k => !valF d c ts k)) := by
      have h := hV.out
      rw [if_neg (by decide), if_neg (by decide), if_neg (by decide), if_pos rfl, valL_eq, List.all_map] at h
      show _ = _
      rw [h, List.all_eq_not_any_not]; rfl
    have HP : FnOn 41 #[.pointer (some ⟨hb, 0, none⟩)] (fun W x v => Fo.In W H x v) (fun k => !valF d c ts k) ks (fun W => Below w.heap.size w W) := by
      intro W x v hx hW hxv
      have hks : x.size ≤ N := by
        obtain ⟨i, hi, rfl⟩ := List.getElem_of_mem hx
        have := Fo.size_get ks i hi
        rw [Fo.size] at hN; omega
      have hWs := hW.size
      have hsh := hxv.shape
      obtain ⟨xa, xc, rfl⟩ := hsh
      have hbb : Below W.heap.size W (W.alloc (.cells #[.int .i64 x.op, .string x.name, .int .i64 x.cmp, .int .i64 x.n, .slice xa x.kids.length xc] 44)) := (Below.refl _ _).alloc (Nat.le_refl _) _
      have hI := IH.out x _ (W.alloc (.cells #[.int .i64 x.op, .string x.name, .int .i64 x.cmp, .int .i64 x.n, .slice xa x.kids.length xc] 44)) hks (HG.out.kid hx) (HE0.out.below ((hW.mono hsz).trans (hbb.mono (by omega)))) (Fo.In.below (hbb.mono (by omega)) _ _ hxv)
      have y4 := (hW.cell (p := ⟨hb, 0, none⟩) (by simp; omega)).trans q4
      have hhb : hb < W.heap.size := by omega
      have HI := Lib.hid hI
      have HBB := Lib.hid hbb
      clear hI hbb
      show Calls _ _ #[_, _] _ _
      go_enter Tryz.func41, Tryz.ntmps41
      go_wp2_with (go_at_call 36; refine HI.out.mono ?_; rintro e w4 ⟨rfl, hb4⟩)
      go_ret
      exact ⟨rfl, hW.trans ((HBB.out.trans (hb4.mono HBB.out.size)).mono hWs)⟩
    have HC := Lib.hid (contFuncFo_any ks 41 #[.pointer (some ⟨hb, 0, none⟩)] _ (fun W => Below w.heap.size w W) H ao cap (w.alloc (.cells #[.int .i64 6, .string nm, .int .i64 cm, .int .i64 n, .slice ao ks.length cap] 44)) (enters_of Tryz.func41 (by kernel_rfl) rfl) h6 h5
      (fun W hW hne => by obtain ⟨b, off, ha, hbH, hL⟩ := H7.out hne; exact ⟨b, off, ha, Fo.InL.below (hW.mono hsz) hbH _ _ hL⟩) HP HB1.out)
    generalize (ks.any fun k => !valF d c ts k) = RR at *
    have hhb : hb < w.heap.size := by omega
    clear hV HP
    go_enter Tryz.func36, Tryz.ntmps36
    go_wp2_with (go_at_call 40; refine HC.out.mono ?_; rintro e w4 ⟨rfl, hb4⟩)
    go_ret
    exact ⟨ret_bool HS.out.symm, hb4⟩
  · have HS : Hid (R = ks.any fun k => valF d c ts k) := by
      have h := hV.out
      rw [if_neg (by decide), if_neg (by decide), if_neg (by decide), if_neg (by decide), if_pos rfl, valL_eq, List.any_map] at h
      exact h
    have HP : FnOn 36 #[.pointer (some ⟨cb, 0, none⟩), .pointer (some ⟨db, 0, none⟩), .pointer (some ⟨tb, 0, none⟩), .pointer (some ⟨hb, 0, none⟩)] (fun W x v => Fo.In W H x v) (fun k => valF d c ts k) ks (fun W => Below w.heap.size w W) := by
      intro W x v hx hW hxv
      have hks : x.size ≤ N := by
        obtain ⟨i, hi, rfl⟩ := List.getElem_of_mem hx
        have := Fo.size_get ks i hi
        rw [Fo.size] at hN; omega
      exact (IH.out x v W hks (HG.out.kid hx) (HE0.out.below (hW.mono hsz)) hxv).mono fun e w' ⟨he, hb⟩ => ⟨he, hW.trans (hb.mono hW.size)⟩
    have HC := Lib.hid (contFuncFo_any ks 36 #[.pointer (some ⟨cb, 0, none⟩), .pointer (some ⟨db, 0, none⟩), .pointer (some ⟨tb, 0, none⟩), .pointer (some ⟨hb, 0, none⟩)] _ (fun W => Below w.heap.size w W) H ao cap (w.alloc (.cells #[.int .i64 7, .string nm, .int .i64 cm, .int .i64 n, .slice ao ks.length cap] 44)) (enters_of Tryz.func36 (by kernel_rfl) rfl) h6 h5
      (fun W hW hne => by obtain ⟨b, off, ha, hbH, hL⟩ := H7.out hne; exact ⟨b, off, ha, Fo.InL.below (hW.mono hsz) hbH _ _ hL⟩) HP HB1.out)
    generalize (ks.any fun k => valF d c ts k) = RR at *
    have hhb : hb < w.heap.size := by omega
    clear hV HP
    go_enter Tryz.func36, Tryz.ntmps36
    go_wp2_with (go_at_call 40; refine HC.out.mono ?_; rintro e w4 ⟨rfl, hb4⟩)
    go_ret
    exact ⟨ret_bool HS.out.symm, hb4⟩

end Go.Proofs.YtihpoecdnchioaaGreatDoor
