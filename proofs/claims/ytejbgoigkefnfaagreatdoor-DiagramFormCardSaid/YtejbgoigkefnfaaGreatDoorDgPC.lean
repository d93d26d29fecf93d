/- Plain core of chapter 11: the reference counts the cells that the counting speaks of. No program is walked. -/
import Derived.Test.YtejbgoigkefnfaaGreatDoorDgIW
import Derived.Test.YtejbgoigkefnfaaGreatDoorDgVC
import Derived.Test.YtejbgoigkefnfaaGreatDoorDgVH
import Derived.Test.YtejbgoigkefnfaaGreatDoorDgBP
import Derived.Test.YtejbgoigkefnfaaGreatDoorDgGP
import Derived.BigQuiet
set_option maxRecDepth 100000
set_option maxHeartbeats 4000000
namespace Go.Proofs.YtejbgoigkefnfaaGreatDoor
section
open Go.RowKit
def putK (l : List Int) (n : Int) : Nat := l.findIdx fun x => decide (n <= x)
def putL (l : List Int) (n lo hi : Int) : List Int :=
 if n < lo \/ hi < n then l else if putK l n < l.length /\ l.getD (putK l n) 0 = n then l else l.take (putK l n) ++ [n] ++ l.drop (putK l n)
theorem putL_len (l : List Int) (n lo hi : Int) : (putL l n lo hi).length <= l.length + 1 /\ l.length <= (putL l n lo hi).length := by
 unfold putL
 split
 ·omega
 ·split
  ·omega
  ·simp only [List.length_append, List.length_take, List.length_drop, List.length_cons, List.length_nil]
   have : putK l n <= l.length := List.findIdx_le_length; omega
theorem run_app_ints {w : World} {base n c : Nat} {ty : TypeId} {v : Value} {l m : List Int} {ad : Addr} (hown : w.ownsRow base 3 1 v n (l.map iW)) (hm : ∀ j u, (m.map iW)[j]? = some u -> w.cell? (ad.add j) = some u) (hlen : n + m.length <= 4000000) (hb : base <= w.heap.size) :
  ∃ v' w', (Builtin.append_ #[28, 28] ty #[v, .slice (some ad) m.length c]).run Tryz.prog w = .ok v' w' /\ w'.ownsRow base 3 1 v' (n + m.length) ((l ++ m).map iW) /\ w.grownBy w' v.ownBlock := by
 obtain ⟨i0, b0, b1, b2, b3⟩ := info_parts intInfo3; obtain ⟨v', w', h1, h2, h3, _, _⟩ := run_append_own_at (P := Tryz.prog) w base 28 ty 3 i0 _ 1 8 Tryz.underlying28 b0 b1 b2 b3 rfl (by decide) v n _ hown ad m.length c (m.map iW) (by simp) hm (fun u hu => by obtain ⟨s, _, rfl⟩ := List.mem_map.1 hu; rfl) (by unfold maxLen; omega) (by omega) hb; exact ⟨v', w', h1, by rw [List.map_append]; exact h2, h3⟩
theorem wpList_app_ints {ops : Array Oper} {rest : List Oper} {o : Oper} {a : Act} {Q : Exit -> Act -> World -> Prop} {w : World} (hg : o.guard = none) (x y : Operand) (ho : o.op = .call { callee := .builtin .append, args := #[x, y], argTypes := #[28, 28] })
  (base : Nat) (v : Value) (n : Nat) (l : List Int) (hv : a.eval x = v) (hown : w.ownsRow base 3 1 v n (l.map iW)) (m : List Int) (ml : Nat) (hml : m.length = ml) (ad : Addr) (c : Nat) (hy : a.eval y = .slice (some ad) ml c)
  (hm : ∀ j u, (m.map iW)[j]? = some u -> w.cell? (ad.add j) = some u) (hlen : n + ml <= 4000000) (hb : base <= w.heap.size)
  (hK : ∀ v' w', w'.ownsRow base 3 1 v' (n + ml) ((l ++ m).map iW) -> w.grownBy w' v.ownBlock -> wpList Tryz.prog ops Q rest (a.put o.dst v') w') : wpList Tryz.prog ops Q (o :: rest) a w := by
 subst hml; refine wpList_plain hg fun K' hK' => ?_
 obtain ⟨v', w', hr, h2, h3⟩ := run_app_ints (ty := o.type) (c := c) hown hm hlen hb; unfold Oper.wp execOp; simp only [ho, resolve, invoke, builtin, Sem.run_bind, Sem.run_pure, Result.andThen_ok, List.map_toArray, List.map_cons, List.map_nil, hv, hy, hr]; exact hK' _ _ (hK v' w' h2 h3)
theorem put_any (l : List Int) (n lo hi : Int) (v : Value) (w : World) (hne : l ≠ []) (hl : IntsIn w w.heap.size l v) (hlen : l.length <= 1000000) :
  Calls Tryz.prog 119 #[v, .int .i64 n, .int .i64 lo, .int .i64 hi] w fun e w' => ∃ u, e = .returned u /\ IntsIn w' w'.heap.size (putL l n lo hi) u /\ Below w.heap.size w w' := by
 have HL := Lib.hid hl; obtain ⟨ao, cap, rfl, l1, l2, l3⟩ := SlIn.shape hl; obtain ⟨b, off, rfl, hbB⟩ := l3 hne; unfold maxLen at l2; obtain ⟨R, hR⟩ : ∃ R, putL l n lo hi = R := ⟨_, rfl⟩; rw [hR]; by_cases g1 : n < lo
 ·have g1d : decide (n < lo) = true := by simpa using g1
  have hRe : R = l := by rw [<- hR]; unfold putL; rw [if_pos (.inl g1)]
  subst hRe; clear hR g1 hl l3; go_enter Tryz.func119, Tryz.ntmps119; go_wp2; go_ret; exact ⟨_, rfl, HL.out, Below.refl _ _⟩
 ·have g1d : decide (n < lo) = false := by simpa using g1
  by_cases g2 : hi < n
  ·have g2d : decide (hi < n) = true := by simpa using g2
   have hRe : R = l := by rw [<- hR]; unfold putL; rw [if_pos (.inr g2)]
   subst hRe; clear hR g1 g2 hl l3; go_enter Tryz.func119, Tryz.ntmps119; go_wp2; go_ret; exact ⟨_, rfl, HL.out, Below.refl _ _⟩
  ·have g2d : decide (hi < n) = false := by simpa using g2
   have hR2 : R = if putK l n < l.length /\ l.getD (putK l n) 0 = n then l else l.take (putK l n) ++ [n] ++ l.drop (putK l n) := by
    rw [<- hR]; unfold putL; rw [if_neg (by omega)]
   have hkl : putK l n <= l.length := List.findIdx_le_length
   have hbef : Hid (∀ j, (h : j < l.length) -> j < putK l n -> l[j] < n) := fun j h hj => by
    have := List.not_of_lt_findIdx hj; simp at this; exact this
   have haft : Hid (∀ h : putK l n < l.length, n <= l[putK l n]) := fun h => by
    have q := List.findIdx_getElem (w := h); have q2 : decide (n <= l[putK l n]) = true := q
    simpa using q2
   have HR2 := Lib.hid hR2; clear hR hR2 g1 g2 hl l3; generalize putK l n = kx at *
   go_enter Tryz.func119, Tryz.ntmps119; go_wp2
   go_loopw [9] (fun kv wr => ∃ k : Nat, k <= kx /\ kv = .int .i64 k /\ Hid (wr = w)) (fun kv _ => kx - (intOf kv).toNat)
   case atStart => exact ⟨0, by omega, rfl, rfl⟩
   case round =>
    obtain ⟨k, hk, rfl, hwr⟩ := hrel; have hwr := hwr.out; subst hwr; by_cases hlt : k < kx
    ·have hkl2 : k < l.length := by omega
     have hx := hbef.out k hkl2 hlt; obtain ⟨b', o', e, _, hc⟩ := SlIn.one HL.out k hkl2; obtain ⟨rfl, rfl⟩ : b = b' /\ off = o' := by simpa using e
     have hxd : decide (l[k] < n) = true := by simpa using hx
     clear e hx; generalize l[k] = x at *
     go_wp2; go_roundw
     case rel => exact ⟨k + 1, by omega, by go_num, (show True from trivial)⟩
     case measure => simp [intOf]; omega
    ·have hkk : k = kx := by omega
     subst hkk; have htk : (l.take k).length = k := by rw [List.length_take]; omega
     have htd : (l.drop k).length = l.length - k := List.length_drop
     have hrow : ∀ i u, (l.map iW)[i]? = some u -> wr.cell? ⟨b, off + i, none⟩ = some u := fun i u hu => by
      rw [List.getElem?_map] at hu; obtain ⟨z, hz, rfl⟩ := Option.map_eq_some_iff.1 hu; obtain ⟨hi, rfl⟩ := List.getElem?_eq_some_iff.1 hz; obtain ⟨b', o', e, _, hc⟩ := SlIn.one HL.out i hi; obtain ⟨rfl, rfl⟩ : b = b' /\ off = o' := by simpa using e
      exact hc
     have HB1 : Hid (Below wr.heap.size wr (wr.alloc (.cells #[] 3))) := (Below.refl _ _).alloc (Nat.le_refl _) _
     have HO1 : Hid ((wr.alloc (.cells #[] 3)).ownsRow wr.heap.size 3 1 (.slice (some ⟨wr.heap.size, 0, none⟩) 0 0) 0 (([] : List Int).map iW)) :=
      ⟨rfl, .inr ⟨wr.heap.size, 0, #[], rfl, Nat.le_refl _, World.alloc_heap_new _ _, Nat.le_refl _, Nat.zero_le _, rfl, by simp⟩⟩
     have HT1 : Hid (∀ j u, ((l.take k).map iW)[j]? = some u -> (wr.alloc (.cells #[] 3)).cell? ((⟨b, off, none⟩ : Addr).add j) = some u) := fun j u hu => by
      have : (l.map iW)[j]? = some u := by
       rw [List.map_take] at hu; rw [List.getElem?_take] at hu
       split at hu
       ·exact hu
       ·cases hu
      rw [Addr.add_mid]; exact (HB1.out.cell (p := ⟨b, off + j, none⟩) hbB).trans (hrow j u this)
     have HT3 : Hid (∀ w', Below wr.heap.size wr w' -> ∀ j u, ((l.drop k).map iW)[j]? = some u -> w'.cell? ((⟨b, off + k, none⟩ : Addr).add j) = some u) := fun w' hb' j u hu => by
      rw [List.map_drop, List.getElem?_drop] at hu; rw [Addr.add_mid, Nat.add_assoc]; exact (hb'.cell (p := ⟨b, off + (k + j), none⟩) hbB).trans (hrow _ u hu)
     clear hrow; have hRb : ¬ (k < l.length /\ l.getD k 0 = n) -> R = l.take k ++ [n] ++ l.drop k := fun h => by rw [HR2.out, if_neg h]
     by_cases h1 : k < l.length
     ·have hx := haft.out h1
      obtain ⟨b', o', e, _, hc⟩ := SlIn.one HL.out k h1; obtain ⟨rfl, rfl⟩ : b = b' /\ off = o' := by simpa using e
      have hxd : decide (l[k] < n) = false := by simp; omega
      have hgd : l.getD k 0 = l[k] := getD_dg _ _ _ h1; rw [hgd] at hRb; have HRB := Lib.hid hRb; have hr2 := HR2.out; rw [hgd] at hr2; have HR3 := Lib.hid hr2; clear e hx hgd hRb hr2 HR2 haft hbef; generalize l[k] = x at *
      cases e3 : (x == n) with
      | true =>
       have hRe : R = l := by rw [HR3.out, if_pos ⟨h1, by simpa using e3⟩]
       subst hRe; clear HR3 HRB; go_wp2; go_ret; exact ⟨_, rfl, HL.out, Below.refl _ _⟩
      | false =>
       have HS : Hid (R = l.take k ++ [n] ++ l.drop k) := HRB.out (fun h => by rw [h.2] at e3; simp at e3); clear HR3 HRB; go_wp2_with (first | (at_builtin; refine wpList_app_ints (by rfl) _ _ (by rfl) wr.heap.size _ 0 [] (by rfl) HO1.out (l.take k) k htk ⟨b, off, none⟩ _ (by rfl) HT1.out (by omega) (by simp) ?_; intro v5 w5 ho5 hg5; have HO5 := Lib.hid ho5; have HB5 : Hid (Below wr.heap.size wr w5) := HB1.out.grown hg5 (by simp) (fun g hg => (own_at HO1.out g hg).1); have hs5 := HB5.out.size; clear ho5 hg5) | (at_builtin; refine wpList_app_ints (by rfl) _ _ (by rfl) wr.heap.size _ _ _ (by rfl) (HO5.out.alloc _) [n] 1 (by rfl) ⟨w5.heap.size, 0, none⟩ _ (by rfl) (cell_one_dg (w := w5) (x := iW n) (t := 3)) (by omega) (by simp; omega) ?_; intro v6 w6 ho6 hg6; have HO6 := Lib.hid ho6; have HB6 : Hid (Below wr.heap.size wr w6) := (HB5.out.alloc (by omega) _).grown hg6 (by simp; omega) (fun g hg => (HO5.out.lt g hg).1); have hs6 := HB6.out.size; clear ho6 hg6) | (at_builtin; refine wpList_app_ints (by rfl) _ _ (by rfl) wr.heap.size _ _ _ (by rfl) HO6.out (l.drop k) (l.length - k) htd ⟨b, off + k, none⟩ _ (by rfl) (HT3.out w6 HB6.out) (by omega) (by omega) ?_; intro v7 w7 ho7 hg7; have HO7 := Lib.hid ho7; have HB7 : Hid (Below wr.heap.size wr w7) := HB6.out.grown hg7 (by omega) (fun g hg => (own_at HO6.out g hg).1); clear ho7 hg7))
       (go_ret; exact ⟨_, rfl, (by rw [HS.out]; have q := HO7.out; rw [show 0 + k + 1 + (l.length - k) = (l.take k ++ [n] ++ l.drop k).length by simp; omega, List.nil_append] at q; exact own_ints q), HB7.out⟩)
     ·have HS : Hid (R = l.take k ++ [n] ++ l.drop k) := hRb (fun h => h1 h.1)
      clear hRb HR2 haft hbef; by_cases hck : k < cap
      ·go_wp2_with (first | (at_builtin; refine wpList_app_ints (by rfl) _ _ (by rfl) wr.heap.size _ 0 [] (by rfl) HO1.out (l.take k) k htk ⟨b, off, none⟩ _ (by rfl) HT1.out (by omega) (by simp) ?_; intro v5 w5 ho5 hg5; have HO5 := Lib.hid ho5; have HB5 : Hid (Below wr.heap.size wr w5) := HB1.out.grown hg5 (by simp) (fun g hg => (own_at HO1.out g hg).1); have hs5 := HB5.out.size; clear ho5 hg5) | (at_builtin; refine wpList_app_ints (by rfl) _ _ (by rfl) wr.heap.size _ _ _ (by rfl) (HO5.out.alloc _) [n] 1 (by rfl) ⟨w5.heap.size, 0, none⟩ _ (by rfl) (cell_one_dg (w := w5) (x := iW n) (t := 3)) (by omega) (by simp; omega) ?_; intro v6 w6 ho6 hg6; have HO6 := Lib.hid ho6; have HB6 : Hid (Below wr.heap.size wr w6) := (HB5.out.alloc (by omega) _).grown hg6 (by simp; omega) (fun g hg => (HO5.out.lt g hg).1); have hs6 := HB6.out.size; clear ho6 hg6) | (at_builtin; refine wpList_app_ints (by rfl) _ _ (by rfl) wr.heap.size _ _ _ (by rfl) HO6.out (l.drop k) (l.length - k) htd ⟨b, off + k, none⟩ _ (by rfl) (HT3.out w6 HB6.out) (by omega) (by omega) ?_; intro v7 w7 ho7 hg7; have HO7 := Lib.hid ho7; have HB7 : Hid (Below wr.heap.size wr w7) := HB6.out.grown hg7 (by omega) (fun g hg => (own_at HO6.out g hg).1); clear ho7 hg7))
       (go_ret; exact ⟨_, rfl, (by rw [HS.out]; have q := HO7.out; rw [show 0 + k + 1 + (l.length - k) = (l.take k ++ [n] ++ l.drop k).length by simp; omega, List.nil_append] at q; exact own_ints q), HB7.out⟩)
      ·have hck2 : cap - k = 0 := by omega
       have hdn : l.drop k = [] := List.drop_eq_nil_of_le (by omega); go_wp2_with (first | (at_builtin; refine wpList_app_ints (by rfl) _ _ (by rfl) wr.heap.size _ 0 [] (by rfl) HO1.out (l.take k) k htk ⟨b, off, none⟩ _ (by rfl) HT1.out (by omega) (by simp) ?_; intro v5 w5 ho5 hg5; have HO5 := Lib.hid ho5; have HB5 : Hid (Below wr.heap.size wr w5) := HB1.out.grown hg5 (by simp) (fun g hg => (own_at HO1.out g hg).1); have hs5 := HB5.out.size; clear ho5 hg5) | (at_builtin; refine wpList_app_ints (by rfl) _ _ (by rfl) wr.heap.size _ _ _ (by rfl) (HO5.out.alloc _) [n] 1 (by rfl) ⟨w5.heap.size, 0, none⟩ _ (by rfl) (cell_one_dg (w := w5) (x := iW n) (t := 3)) (by omega) (by simp; omega) ?_; intro v6 w6 ho6 hg6; have HO6 := Lib.hid ho6; have HB6 : Hid (Below wr.heap.size wr w6) := (HB5.out.alloc (by omega) _).grown hg6 (by simp; omega) (fun g hg => (HO5.out.lt g hg).1); have hs6 := HB6.out.size; clear ho6 hg6) | (at_builtin; refine wpList_app_ints (by rfl) _ _ (by rfl) wr.heap.size _ _ _ (by rfl) HO6.out (l.drop k) (l.length - k) htd ⟨b, off, none⟩ _ (by rfl) (fun j u hu => by rw [hdn] at hu; simp at hu) (by omega) (by omega) ?_; intro v7 w7 ho7 hg7; have HO7 := Lib.hid ho7; have HB7 : Hid (Below wr.heap.size wr w7) := HB6.out.grown hg7 (by omega) (fun g hg => (own_at HO6.out g hg).1); clear ho7 hg7))
       (go_ret; exact ⟨_, rfl, (by rw [HS.out]; have q := HO7.out; rw [show 0 + k + 1 + (l.length - k) = (l.take k ++ [n] ++ l.drop k).length by simp; omega, List.nil_append] at q; exact own_ints q), HB7.out⟩)
end
section
open Go.RowKit
def tsL (nm : ByteArray) (lo hi : Int) : List Int -> List (ByteArray × Int × Int) -> List Int
 | l, [] => l
 | l, t :: ts => tsL nm lo hi (if eqB t.1 nm then putL (putL l t.2.2 lo hi) (wrap64 (t.2.2 + 1)) lo hi else l) ts
theorem tsL_app (nm : ByteArray) (lo hi : Int) : ∀ (a b : List (ByteArray × Int × Int)) (l : List Int), tsL nm lo hi l (a ++ b) = tsL nm lo hi (tsL nm lo hi l a) b
 | [], _, _ => rfl
 | t :: a, b, l => by rw [List.cons_append, tsL, tsL, tsL_app nm lo hi a b]
theorem tsL_len (nm : ByteArray) (lo hi : Int) : ∀ (a : List (ByteArray × Int × Int)) (l : List Int), (tsL nm lo hi l a).length <= l.length + 2 * a.length /\ l.length <= (tsL nm lo hi l a).length
 | [], l => by simp [tsL]
 | t :: a, l => by
  rw [tsL]; have ih := tsL_len nm lo hi a (if eqB t.1 nm then putL (putL l t.2.2 lo hi) (wrap64 (t.2.2 + 1)) lo hi else l); have h1 := putL_len l t.2.2 lo hi; have h2 := putL_len (putL l t.2.2 lo hi) (wrap64 (t.2.2 + 1)) lo hi; simp only [List.length_cons]
  split at ih
  ·rw [if_pos (by assumption)]; omega
  ·rw [if_neg (by assumption)]; omega
theorem testsL_take (ks : List Fo) (k : Nat) (h : k < ks.length) : testsL (ks.take (k + 1)) = testsL (ks.take k) ++ testsF ks[k] := by
 have app : ∀ (a b : List Fo), testsL (a ++ b) = testsL a ++ testsL b := by
  intro a
  induction a with
  | nil => intro b; rfl
  | cons x a ih => intro b; rw [List.cons_append, testsL, testsL, ih, List.append_assoc]
 rw [List.take_succ_eq_append_getElem h, app, testsL, testsL, List.append_nil]
theorem testsL_len : ∀ ks : List Fo, (testsL ks).length <= Fo.sizeL ks
 | [] => Nat.zero_le _
 | k :: ks => by
  rw [testsL, List.length_append, Fo.sizeL]; have := tests_len k.size k (Nat.le_refl _); have := testsL_len ks; omega
abbrev TsW (B : Nat) (nm : ByteArray) (lo hi : Int) (f : Fo) : Prop :=
 ∀ (v lv : Value) (l : List Int) (w : World), B <= w.heap.size -> f.In w B v -> IntsIn w w.heap.size l lv -> l ≠ [] -> l.length + 2 * f.size <= 900000 ->
  Calls Tryz.prog 121 #[v, .string nm, .int .i64 lo, .int .i64 hi, lv] w fun e w' => ∃ u, e = .returned u /\ IntsIn w' w'.heap.size (tsL nm lo hi l (testsF f)) u /\ Below w.heap.size w w'
theorem ts_loop (B : Nat) (nm : ByteArray) (lo hi : Int) (op c n : Int) (s : ByteArray) (ks : List Fo) (IH : ∀ k ∈ ks, TsW B nm lo hi k) : TsW B nm lo hi (.mk op s c n ks) := by
 intro v lv l w hB hf hl hne hlen; obtain ⟨ao, cap, rfl, h1, h2, h3, h4, h5, h6, h7⟩ := hf; unfold maxLen at h6; have hb1 : Below w.heap.size w (w.alloc (.cells #[.int .i64 op, .string s, .int .i64 c, .int .i64 n, .slice ao ks.length cap] 24)) := (Below.refl _ _).alloc (Nat.le_refl _) _; have K0 := Blk.new w 24 #[.int .i64 op, .string s, .int .i64 c, .int .i64 n, .slice ao ks.length cap]; have hsz := Fo.size_pos (.mk op s c n ks); have hsL : Fo.sizeL ks + 1 <= (Fo.mk op s c n ks).size := by rw [Fo.size]; omega
 have HB1 := Lib.hid hb1; have HK0 := Lib.hid K0; have H7 := Lib.hid h7; have HIH := Lib.hid IH; have x0 := K0.cell 0; have x1 := K0.cell 1; have x3 := K0.cell 3; have x4 := K0.cell 4; have hl1 : IntsIn (w.alloc (.cells #[.int .i64 op, .string s, .int .i64 c, .int .i64 n, .slice ao ks.length cap] 24)) ((w.alloc (.cells #[.int .i64 op, .string s, .int .i64 c, .int .i64 n, .slice ao ks.length cap] 24))).heap.size l lv := (hl.below (B := w.heap.size) hb1).mono (OneR.mono _) (by simp); have hW1 : ((w.alloc (.cells #[.int .i64 op, .string s, .int .i64 c, .int .i64 n, .slice ao ks.length cap] 24))).heap.size = w.heap.size + 1 := by simp
 obtain ⟨a0, c0, hlv, _⟩ := SlIn.shape hl
 have HPUT : Hid (∀ (l : List Int) (v : Value) (x : Int) (w' : World), l ≠ [] -> l.length <= 1000000 -> IntsIn w' w'.heap.size l v -> Calls Tryz.prog 119 #[v, .int .i64 x, .int .i64 lo, .int .i64 hi] w' fun e w'' => ∃ (ua : Option Addr) (uc : Nat), e = .returned (.slice ua (putL l x lo hi).length uc) /\ Hid (IntsIn w'' w''.heap.size (putL l x lo hi) (.slice ua (putL l x lo hi).length uc)) /\ Hid (Below w'.heap.size w' w'')) := fun l v x w' q1 q2 q3 => by
  refine (put_any l x lo hi v w' q1 q3 q2).mono ?_; rintro e w'' ⟨u, rfl, r1, r2⟩; obtain ⟨ua, uc, rfl, _⟩ := SlIn.shape r1; exact ⟨ua, uc, rfl, r1, r2⟩
 have hstart : Hid (tsL nm lo hi l (testsF (.mk op s c n ks)) = tsL nm lo hi (if op = 3 /\ eqB s nm = true then putL (putL l n lo hi) (wrap64 (n + 1)) lo hi else l) (testsL ks)) := by
  show _ = _
  rw [testsF, tsL_app]; congr 1
  by_cases h3 : op = 3
  ·rw [if_pos h3, tsL, tsL]
   by_cases he : eqB s nm = true
   ·rw [if_pos he, if_pos ⟨h3, he⟩]
   ·rw [if_neg he, if_neg (fun h => he h.2)]
  ·rw [if_neg h3, tsL, if_neg (fun h => h3 h.1)]
 obtain ⟨R, hR⟩ : ∃ R, tsL nm lo hi l (testsF (.mk op s c n ks)) = R := ⟨_, rfl⟩; rw [hR] at hstart ⊢; have hlpos : 0 < l.length := List.length_pos_iff.2 hne; have HL1 := Lib.hid hl1; subst hlv; have HNE := Lib.hid hne; clear hl hl1 hb1 K0 h7 IH hR h1 h2 h3 h4 hne
 have hcase : ((op == 3) = true /\ (s.toList == nm.toList) = true) \/ ((op == 3) = true /\ (s.toList == nm.toList) = false) \/ (op == 3) = false := by
  cases op == 3 <;> cases s.toList == nm.toList <;> simp
 rcases hcase with ⟨e1, e2⟩ | ⟨e1, e2⟩ | e1
 ·have HS : Hid (R = tsL nm lo hi (putL (putL l n lo hi) (wrap64 (n + 1)) lo hi) (testsL ks)) := by show _ = _; rw [hstart.out, if_pos ⟨by simpa using e1, e2⟩]
  have hln1 := putL_len l n lo hi; have hln2 := putL_len (putL l n lo hi) (wrap64 (n + 1)) lo hi
  have hne1 : putL l n lo hi ≠ [] := fun e => by
   have h := hln1.2; rw [e] at h; have h : l.length <= 0 := h; omega
  have hne2 : putL (putL l n lo hi) (wrap64 (n + 1)) lo hi ≠ [] := fun e => by
   have h := hln2.2; rw [e] at h; have h : (putL l n lo hi).length <= 0 := h; omega
  clear hstart; go_enter Tryz.func121, Tryz.ntmps121; go_upto_region 3 with (go_at_call 119; refine (HPUT.out l _ _ _ HNE.out (by omega) HL1.out).mono ?_; rintro e w3 ⟨ua, uc, rfl, HI3, HB3⟩; have x32 := (HK0.out.below HB3.out).cell 3); clear x0 x1 x3; go_upto_region 4 with (go_at_call 119; refine (HPUT.out _ _ _ _ hne1 (by omega) HI3.out).mono ?_; rintro e w4 ⟨va, vc, rfl, HLL, HB4⟩); have hs3 := HB3.out.size; rw [hW1] at hs3; have HB2 : Hid (Below (w.heap.size + 1) (w.alloc (.cells #[.int .i64 op, .string s, .int .i64 c, .int .i64 n, .slice ao ks.length cap] 24)) w4) := (HB3.out.mono (by omega)).trans (HB4.out.mono (by omega)); have HLN : Hid ((putL (putL l n lo hi) (wrap64 (n + 1)) lo hi).length + 2 * Fo.sizeL ks <= 900000 /\ putL (putL l n lo hi) (wrap64 (n + 1)) lo hi ≠ []) := ⟨by omega, hne2⟩; clear hln1 hln2 hne1 hne2 x32 HI3 x4 HB3 HB4 hs3 w3; generalize putL (putL l n lo hi) (wrap64 (n + 1)) lo hi = L at *
  rename World => w2
  have hs2 : w.heap.size + 1 <= (w2).heap.size := by first | (rw [hW1]; exact Nat.le_refl _) | (have := HB2.out.size; rw [hW1] at this; exact this)
  have c4 := (HK0.out.below (by rw [hW1]; exact HB2.out)).cell 4; have HS0 : Hid (L = tsL nm lo hi L (testsL (ks.take 0))) := rfl; clear HL1; go_wp2
  go_loopw [4, 11] (fun lv iv wr => ∃ (j : Nat) (T : List Int) (ua : Option Addr) (uc : Nat), j <= ks.length /\ iv = .int .i64 j /\ lv = .slice ua T.length uc /\ Hid (T = tsL nm lo hi L (testsL (ks.take j))) /\ Hid (IntsIn wr wr.heap.size T (.slice ua T.length uc)) /\ Hid (Below (w.heap.size + 1) (w.alloc (.cells #[.int .i64 op, .string s, .int .i64 c, .int .i64 n, .slice ao ks.length cap] 24)) wr)) (fun _ iv _ => ks.length - (intOf iv).toNat)
  case atStart => exact ⟨0, L, _, _, by omega, rfl, rfl, HS0, HLL, HB2⟩
  case round =>
   obtain ⟨j, T, ua, uc, hj, rfl, rfl, hT, hI, hb⟩ := hrel; clear HS0 HLL c4; have hsr := hb.out.size; rw [hW1] at hsr; have hbw := HB1.out.trans (hb.out.mono (by omega)); have c4 := (HK0.out.below (by rw [hW1]; exact hb.out)).cell 4; by_cases hlt : j < ks.length
   ·obtain ⟨b, off, rfl, hbB, hL⟩ := H7.out (by intro h; simp [h] at hlt)
    obtain ⟨ka, kc, g0, g1, g2, g3, g4, gk⟩ := Fo.InL.get ks off j hlt (Fo.InL.below (hbw.mono hB) hbB ks off hL); have hTl := tsL_len nm lo hi (testsL (ks.take j)) L; rw [<- hT.out] at hTl; have htl := testsL_len (ks.take j); have hsn := Fo.sizeL_snoc ks j hlt; have hst := Fo.sizeL_take ks (j + 1); have hnext : tsL nm lo hi T (testsF ks[j]) = tsL nm lo hi L (testsL (ks.take (j + 1))) := by rw [testsL_take ks j hlt, tsL_app, <- hT.out]
    have hTne : T ≠ [] := fun e => by
     have h1 := hTl.2; rw [e] at h1; have h1 : (L).length <= 0 := h1; exact HLN.out.2 (List.length_eq_zero_iff.1 (by omega))
    have hC := HIH.out ks[j] (List.getElem_mem _) _ _ T wr (by omega) gk hI.out hTne (by have := HLN.out.1; omega); rw [hnext] at hC
    have HC : Hid (Calls Tryz.prog 121 #[.agg #[.int .i64 ks[j].op, .string ks[j].name, .int .i64 ks[j].cmp, .int .i64 ks[j].n, .slice ka ks[j].kids.length kc], .string nm, .int .i64 lo, .int .i64 hi, .slice ua T.length uc] wr fun e w' => ∃ (va : Option Addr) (vc : Nat), e = .returned (.slice va (tsL nm lo hi L (testsL (ks.take (j + 1)))).length vc) /\ Hid (IntsIn w' w'.heap.size (tsL nm lo hi L (testsL (ks.take (j + 1)))) (.slice va (tsL nm lo hi L (testsL (ks.take (j + 1)))).length vc)) /\ Hid (Below wr.heap.size wr w')) := by
     refine hC.mono ?_; rintro e w' ⟨u, rfl, r1, r2⟩; obtain ⟨va, vc, rfl, _⟩ := SlIn.shape r1; exact ⟨va, vc, rfl, r1, r2⟩
    obtain ⟨T2, hT2⟩ : ∃ T2, tsL nm lo hi L (testsL (ks.take (j + 1))) = T2 := ⟨_, rfl⟩; rw [hT2] at HC; have HT2 : Hid (T2 = tsL nm lo hi L (testsL (ks.take (j + 1)))) := hT2.symm; clear hTl htl hsn hst hnext hTne hC hL gk hI hT hT2; generalize ks[j] = kk at *
    go_wp2_with (go_at_call 121; refine HC.out.mono ?_; rintro e w5 ⟨va, vc, rfl, HI5, HB5⟩); go_roundw
    case rel => exact ⟨j + 1, T2, va, vc, by omega, by go_num, rfl, HT2, HI5, hb.out.trans (HB5.out.mono (by omega))⟩
    case measure => simp [intOf]; omega
   ·have hje : j = ks.length := by omega
    have hTe := hT.out; rw [hje, List.take_length, <- HS.out] at hTe; have HTE := Lib.hid hTe; clear hTe hje hT; go_wp2; go_ret; exact ⟨_, rfl, by rw [<- HTE.out]; exact hI.out, hbw⟩
 ·have HS : Hid (R = tsL nm lo hi l (testsL ks)) := by show _ = _; rw [hstart.out, if_neg (fun h => by have := h.2; unfold eqB at this; rw [e2] at this; cases this)]
  have HB2 : Hid (Below (w.heap.size + 1) (w.alloc (.cells #[.int .i64 op, .string s, .int .i64 c, .int .i64 n, .slice ao ks.length cap] 24)) (w.alloc (.cells #[.int .i64 op, .string s, .int .i64 c, .int .i64 n, .slice ao ks.length cap] 24))) := Below.refl _ _; have HLN : Hid (l.length + 2 * Fo.sizeL ks <= 900000 /\ l ≠ []) := ⟨by omega, HNE.out⟩; have HLL := HL1; clear hstart; go_enter Tryz.func121, Tryz.ntmps121; go_upto_region 4 with (fail); have hs2 : w.heap.size + 1 <= ((w.alloc (.cells #[.int .i64 op, .string s, .int .i64 c, .int .i64 n, .slice ao ks.length cap] 24))).heap.size := by first | (rw [hW1]; exact Nat.le_refl _) | (have := HB2.out.size; rw [hW1] at this; exact this)
  have c4 := (HK0.out.below (by rw [hW1]; exact HB2.out)).cell 4; have HS0 : Hid (l = tsL nm lo hi l (testsL (ks.take 0))) := rfl; clear HL1; go_wp2
  go_loopw [4, 11] (fun lv iv wr => ∃ (j : Nat) (T : List Int) (ua : Option Addr) (uc : Nat), j <= ks.length /\ iv = .int .i64 j /\ lv = .slice ua T.length uc /\ Hid (T = tsL nm lo hi l (testsL (ks.take j))) /\ Hid (IntsIn wr wr.heap.size T (.slice ua T.length uc)) /\ Hid (Below (w.heap.size + 1) (w.alloc (.cells #[.int .i64 op, .string s, .int .i64 c, .int .i64 n, .slice ao ks.length cap] 24)) wr)) (fun _ iv _ => ks.length - (intOf iv).toNat)
  case atStart => exact ⟨0, l, _, _, by omega, rfl, rfl, HS0, HLL, HB2⟩
  case round =>
   obtain ⟨j, T, ua, uc, hj, rfl, rfl, hT, hI, hb⟩ := hrel; clear HS0 HLL c4; have hsr := hb.out.size; rw [hW1] at hsr; have hbw := HB1.out.trans (hb.out.mono (by omega)); have c4 := (HK0.out.below (by rw [hW1]; exact hb.out)).cell 4; by_cases hlt : j < ks.length
   ·obtain ⟨b, off, rfl, hbB, hL⟩ := H7.out (by intro h; simp [h] at hlt)
    obtain ⟨ka, kc, g0, g1, g2, g3, g4, gk⟩ := Fo.InL.get ks off j hlt (Fo.InL.below (hbw.mono hB) hbB ks off hL); have hTl := tsL_len nm lo hi (testsL (ks.take j)) l; rw [<- hT.out] at hTl; have htl := testsL_len (ks.take j); have hsn := Fo.sizeL_snoc ks j hlt; have hst := Fo.sizeL_take ks (j + 1); have hnext : tsL nm lo hi T (testsF ks[j]) = tsL nm lo hi l (testsL (ks.take (j + 1))) := by rw [testsL_take ks j hlt, tsL_app, <- hT.out]
    have hTne : T ≠ [] := fun e => by
     have h1 := hTl.2; rw [e] at h1; have h1 : (l).length <= 0 := h1; exact HLN.out.2 (List.length_eq_zero_iff.1 (by omega))
    have hC := HIH.out ks[j] (List.getElem_mem _) _ _ T wr (by omega) gk hI.out hTne (by have := HLN.out.1; omega); rw [hnext] at hC
    have HC : Hid (Calls Tryz.prog 121 #[.agg #[.int .i64 ks[j].op, .string ks[j].name, .int .i64 ks[j].cmp, .int .i64 ks[j].n, .slice ka ks[j].kids.length kc], .string nm, .int .i64 lo, .int .i64 hi, .slice ua T.length uc] wr fun e w' => ∃ (va : Option Addr) (vc : Nat), e = .returned (.slice va (tsL nm lo hi l (testsL (ks.take (j + 1)))).length vc) /\ Hid (IntsIn w' w'.heap.size (tsL nm lo hi l (testsL (ks.take (j + 1)))) (.slice va (tsL nm lo hi l (testsL (ks.take (j + 1)))).length vc)) /\ Hid (Below wr.heap.size wr w')) := by
     refine hC.mono ?_; rintro e w' ⟨u, rfl, r1, r2⟩; obtain ⟨va, vc, rfl, _⟩ := SlIn.shape r1; exact ⟨va, vc, rfl, r1, r2⟩
    obtain ⟨T2, hT2⟩ : ∃ T2, tsL nm lo hi l (testsL (ks.take (j + 1))) = T2 := ⟨_, rfl⟩; rw [hT2] at HC; have HT2 : Hid (T2 = tsL nm lo hi l (testsL (ks.take (j + 1)))) := hT2.symm; clear hTl htl hsn hst hnext hTne hC hL gk hI hT hT2; generalize ks[j] = kk at *
    go_wp2_with (go_at_call 121; refine HC.out.mono ?_; rintro e w5 ⟨va, vc, rfl, HI5, HB5⟩); go_roundw
    case rel => exact ⟨j + 1, T2, va, vc, by omega, by go_num, rfl, HT2, HI5, hb.out.trans (HB5.out.mono (by omega))⟩
    case measure => simp [intOf]; omega
   ·have hje : j = ks.length := by omega
    have hTe := hT.out; rw [hje, List.take_length, <- HS.out] at hTe; have HTE := Lib.hid hTe; clear hTe hje hT; go_wp2; go_ret; exact ⟨_, rfl, by rw [<- HTE.out]; exact hI.out, hbw⟩
 ·have HS : Hid (R = tsL nm lo hi l (testsL ks)) := by show _ = _; rw [hstart.out, if_neg (fun h => by have := h.1; subst this; simp at e1)]
  have HB2 : Hid (Below (w.heap.size + 1) (w.alloc (.cells #[.int .i64 op, .string s, .int .i64 c, .int .i64 n, .slice ao ks.length cap] 24)) (w.alloc (.cells #[.int .i64 op, .string s, .int .i64 c, .int .i64 n, .slice ao ks.length cap] 24))) := Below.refl _ _; have HLN : Hid (l.length + 2 * Fo.sizeL ks <= 900000 /\ l ≠ []) := ⟨by omega, HNE.out⟩; have HLL := HL1; clear hstart; go_enter Tryz.func121, Tryz.ntmps121; go_upto_region 4 with (fail); have hs2 : w.heap.size + 1 <= ((w.alloc (.cells #[.int .i64 op, .string s, .int .i64 c, .int .i64 n, .slice ao ks.length cap] 24))).heap.size := by first | (rw [hW1]; exact Nat.le_refl _) | (have := HB2.out.size; rw [hW1] at this; exact this)
  have c4 := (HK0.out.below (by rw [hW1]; exact HB2.out)).cell 4; have HS0 : Hid (l = tsL nm lo hi l (testsL (ks.take 0))) := rfl; clear HL1; go_wp2
  go_loopw [4, 11] (fun lv iv wr => ∃ (j : Nat) (T : List Int) (ua : Option Addr) (uc : Nat), j <= ks.length /\ iv = .int .i64 j /\ lv = .slice ua T.length uc /\ Hid (T = tsL nm lo hi l (testsL (ks.take j))) /\ Hid (IntsIn wr wr.heap.size T (.slice ua T.length uc)) /\ Hid (Below (w.heap.size + 1) (w.alloc (.cells #[.int .i64 op, .string s, .int .i64 c, .int .i64 n, .slice ao ks.length cap] 24)) wr)) (fun _ iv _ => ks.length - (intOf iv).toNat)
  case atStart => exact ⟨0, l, _, _, by omega, rfl, rfl, HS0, HLL, HB2⟩
  case round =>
   obtain ⟨j, T, ua, uc, hj, rfl, rfl, hT, hI, hb⟩ := hrel; clear HS0 HLL c4; have hsr := hb.out.size; rw [hW1] at hsr; have hbw := HB1.out.trans (hb.out.mono (by omega)); have c4 := (HK0.out.below (by rw [hW1]; exact hb.out)).cell 4; by_cases hlt : j < ks.length
   ·obtain ⟨b, off, rfl, hbB, hL⟩ := H7.out (by intro h; simp [h] at hlt)
    obtain ⟨ka, kc, g0, g1, g2, g3, g4, gk⟩ := Fo.InL.get ks off j hlt (Fo.InL.below (hbw.mono hB) hbB ks off hL); have hTl := tsL_len nm lo hi (testsL (ks.take j)) l; rw [<- hT.out] at hTl; have htl := testsL_len (ks.take j); have hsn := Fo.sizeL_snoc ks j hlt; have hst := Fo.sizeL_take ks (j + 1); have hnext : tsL nm lo hi T (testsF ks[j]) = tsL nm lo hi l (testsL (ks.take (j + 1))) := by rw [testsL_take ks j hlt, tsL_app, <- hT.out]
    have hTne : T ≠ [] := fun e => by
     have h1 := hTl.2; rw [e] at h1; have h1 : (l).length <= 0 := h1; exact HLN.out.2 (List.length_eq_zero_iff.1 (by omega))
    have hC := HIH.out ks[j] (List.getElem_mem _) _ _ T wr (by omega) gk hI.out hTne (by have := HLN.out.1; omega); rw [hnext] at hC
    have HC : Hid (Calls Tryz.prog 121 #[.agg #[.int .i64 ks[j].op, .string ks[j].name, .int .i64 ks[j].cmp, .int .i64 ks[j].n, .slice ka ks[j].kids.length kc], .string nm, .int .i64 lo, .int .i64 hi, .slice ua T.length uc] wr fun e w' => ∃ (va : Option Addr) (vc : Nat), e = .returned (.slice va (tsL nm lo hi l (testsL (ks.take (j + 1)))).length vc) /\ Hid (IntsIn w' w'.heap.size (tsL nm lo hi l (testsL (ks.take (j + 1)))) (.slice va (tsL nm lo hi l (testsL (ks.take (j + 1)))).length vc)) /\ Hid (Below wr.heap.size wr w')) := by
     refine hC.mono ?_; rintro e w' ⟨u, rfl, r1, r2⟩; obtain ⟨va, vc, rfl, _⟩ := SlIn.shape r1; exact ⟨va, vc, rfl, r1, r2⟩
    obtain ⟨T2, hT2⟩ : ∃ T2, tsL nm lo hi l (testsL (ks.take (j + 1))) = T2 := ⟨_, rfl⟩; rw [hT2] at HC; have HT2 : Hid (T2 = tsL nm lo hi l (testsL (ks.take (j + 1)))) := hT2.symm; clear hTl htl hsn hst hnext hTne hC hL gk hI hT hT2; generalize ks[j] = kk at *
    go_wp2_with (go_at_call 121; refine HC.out.mono ?_; rintro e w5 ⟨va, vc, rfl, HI5, HB5⟩); go_roundw
    case rel => exact ⟨j + 1, T2, va, vc, by omega, by go_num, rfl, HT2, HI5, hb.out.trans (HB5.out.mono (by omega))⟩
    case measure => simp [intOf]; omega
   ·have hje : j = ks.length := by omega
    have hTe := hT.out; rw [hje, List.take_length, <- HS.out] at hTe; have HTE := Lib.hid hTe; clear hTe hje hT; go_wp2; go_ret; exact ⟨_, rfl, by rw [<- HTE.out]; exact hI.out, hbw⟩
end
section
open Go.RowKit
theorem ts_any (B : Nat) (nm : ByteArray) (lo hi : Int) : ∀ (N : Nat) (f : Fo), f.size <= N -> TsW B nm lo hi f := by
 intro N
 induction N with
 | zero => intro f h; have := f.size_pos; omega
 | succ N ih =>
  intro f h; obtain ⟨op, s, c, n, ks⟩ := f; refine ts_loop B nm lo hi op c n s ks fun k hk => ih k ?_
  obtain ⟨i, hi', rfl⟩ := List.getElem_of_mem hk; have := Fo.size_get ks i hi'; rw [Fo.size] at h; omega
def stG (fa : Fa) (f : Fo) : List Int := tsL fa.name fa.lo fa.hi [fa.lo] (testsF f)
theorem stG_any (fa : Fa) (f : Fo) (v : Value) (w : World) (B : Nat) (hB : B <= w.heap.size) (hf : f.In w B v) (hz : f.size <= 100000) :
  Calls Tryz.prog 86 #[v, .agg #[.string fa.name, .int .i64 fa.kind, .int .i64 fa.lo, .int .i64 fa.hi]] w fun e w' => ∃ (ua : Option Addr) (uc : Nat), e = .returned (.slice ua (stG fa f).length uc) /\ Hid (IntsIn w' w'.heap.size (stG fa f) (.slice ua (stG fa f).length uc)) /\ Hid (Below w.heap.size w w') := by
 obtain ⟨ao, cap, rfl⟩ := hf.shape; have hb2 : Below w.heap.size w ((w.alloc (.cells #[.int .i64 f.op, .string f.name, .int .i64 f.cmp, .int .i64 f.n, .slice ao f.kids.length cap] 24)).alloc (.cells #[.string fa.name, .int .i64 fa.kind, .int .i64 fa.lo, .int .i64 fa.hi] 83)) := ((Below.refl _ _).alloc (Nat.le_refl _) _).alloc (by simp) _; have hb3 : Below w.heap.size w (((w.alloc (.cells #[.int .i64 f.op, .string f.name, .int .i64 f.cmp, .int .i64 f.n, .slice ao f.kids.length cap] 24)).alloc (.cells #[.string fa.name, .int .i64 fa.kind, .int .i64 fa.lo, .int .i64 fa.hi] 83)).alloc (.cells #[.int .i64 fa.lo] 3)) := hb2.alloc (by simp; omega) _; have K0 : Blk ((w.alloc (.cells #[.int .i64 f.op, .string f.name, .int .i64 f.cmp, .int .i64 f.n, .slice ao f.kids.length cap] 24)).alloc (.cells #[.string fa.name, .int .i64 fa.kind, .int .i64 fa.lo, .int .i64 fa.hi] 83)) w.heap.size 24 #[.int .i64 f.op, .string f.name, .int .i64 f.cmp, .int .i64 f.n, .slice ao f.kids.length cap] := (Blk.new w 24 #[.int .i64 f.op, .string f.name, .int .i64 f.cmp, .int .i64 f.n, .slice ao f.kids.length cap]).alloc _
 have K1 : Blk ((w.alloc (.cells #[.int .i64 f.op, .string f.name, .int .i64 f.cmp, .int .i64 f.n, .slice ao f.kids.length cap] 24)).alloc (.cells #[.string fa.name, .int .i64 fa.kind, .int .i64 fa.lo, .int .i64 fa.hi] 83)) (w.heap.size + 1) 83 #[.string fa.name, .int .i64 fa.kind, .int .i64 fa.lo, .int .i64 fa.hi] := by
  have q := Blk.new (w.alloc (.cells #[.int .i64 f.op, .string f.name, .int .i64 f.cmp, .int .i64 f.n, .slice ao f.kids.length cap] 24)) 83 #[.string fa.name, .int .i64 fa.kind, .int .i64 fa.lo, .int .i64 fa.hi]
  simpa only [World.size_alloc] using q
 have hrow : IntsIn (((w.alloc (.cells #[.int .i64 f.op, .string f.name, .int .i64 f.cmp, .int .i64 f.n, .slice ao f.kids.length cap] 24)).alloc (.cells #[.string fa.name, .int .i64 fa.kind, .int .i64 fa.lo, .int .i64 fa.hi] 83)).alloc (.cells #[.int .i64 fa.lo] 3)) ((((w.alloc (.cells #[.int .i64 f.op, .string f.name, .int .i64 f.cmp, .int .i64 f.n, .slice ao f.kids.length cap] 24)).alloc (.cells #[.string fa.name, .int .i64 fa.kind, .int .i64 fa.lo, .int .i64 fa.hi] 83)).alloc (.cells #[.int .i64 fa.lo] 3))).heap.size [fa.lo] (.slice (some ⟨w.heap.size + 1 + 1, 0, none⟩) 1 1) := by
  refine ⟨some ⟨w.heap.size + 1 + 1, 0, none⟩, 1, rfl, Nat.le_refl _, by decide, fun _ => ⟨w.heap.size + 1 + 1, 0, rfl, by simp, fun i hi => ?_⟩⟩; have hi0 : i = 0 := by simpa using hi
  subst hi0; have q := (Blk.new ((w.alloc (.cells #[.int .i64 f.op, .string f.name, .int .i64 f.cmp, .int .i64 f.n, .slice ao f.kids.length cap] 24)).alloc (.cells #[.string fa.name, .int .i64 fa.kind, .int .i64 fa.lo, .int .i64 fa.hi] 83)) 3 #[.int .i64 fa.lo]).cell 0; simp only [World.size_alloc] at q; exact q
 have hC := ts_any B fa.name fa.lo fa.hi f.size f (Nat.le_refl _) _ _ [fa.lo] (((w.alloc (.cells #[.int .i64 f.op, .string f.name, .int .i64 f.cmp, .int .i64 f.n, .slice ao f.kids.length cap] 24)).alloc (.cells #[.string fa.name, .int .i64 fa.kind, .int .i64 fa.lo, .int .i64 fa.hi] 83)).alloc (.cells #[.int .i64 fa.lo] 3)) (by simp; omega) (Fo.In.below (hb3.mono hB) _ _ hf) hrow (by simp) (by simp; omega)
 have HC : Hid (Calls Tryz.prog 121 #[.agg #[.int .i64 f.op, .string f.name, .int .i64 f.cmp, .int .i64 f.n, .slice ao f.kids.length cap], .string fa.name, .int .i64 fa.lo, .int .i64 fa.hi, .slice (some ⟨w.heap.size + 1 + 1, 0, none⟩) 1 1] (((w.alloc (.cells #[.int .i64 f.op, .string f.name, .int .i64 f.cmp, .int .i64 f.n, .slice ao f.kids.length cap] 24)).alloc (.cells #[.string fa.name, .int .i64 fa.kind, .int .i64 fa.lo, .int .i64 fa.hi] 83)).alloc (.cells #[.int .i64 fa.lo] 3)) fun e w' => ∃ (ua : Option Addr) (uc : Nat), e = .returned (.slice ua (stG fa f).length uc) /\ Hid (IntsIn w' w'.heap.size (stG fa f) (.slice ua (stG fa f).length uc)) /\ Hid (Below w.heap.size w w')) := by
  refine hC.mono ?_; rintro e w' ⟨u, rfl, r1, r2⟩; obtain ⟨ua, uc, rfl, _⟩ := SlIn.shape r1; exact ⟨ua, uc, rfl, r1, hb3.trans (r2.mono (by simp; omega))⟩
 have x0 := K0.cell 0; have x1 := K0.cell 1; have x2 := K0.cell 2; have x3 := K0.cell 3; have x4 := K0.cell 4; have y0 := K1.cell 0; have y2 := K1.cell 2; have y3 := K1.cell 3; generalize stG fa f = T at *
 clear hC hrow hb2 hb3 hf K0 K1; go_enter Tryz.func86, Tryz.ntmps86; go_wp2_with (go_at_call 121; refine HC.out.mono ?_; rintro e w5 ⟨va, vc, rfl, HI5, HB5⟩); go_ret; exact ⟨_, _, rfl, HI5, HB5⟩
def cellsG (f : Fo) (n : Int) : List Fa -> Int -> Int
 | [], out => out
 | x :: d, out => if n < out * ((stG x f).length : Int) then n + 1 else cellsG f n d (out * ((stG x f).length : Int))
theorem cellsG_drop (f : Fo) (n : Int) (d : List Fa) (out : Int) (j : Nat) (h : j < d.length) : cellsG f n (d.drop j) out = if n < out * ((stG d[j] f).length : Int) then n + 1 else cellsG f n (d.drop (j + 1)) (out * ((stG d[j] f).length : Int)) := by
 rw [List.drop_eq_getElem_cons h, cellsG]
theorem stG_len (fa : Fa) (f : Fo) : (stG fa f).length <= 2 * f.size + 1 /\ 1 <= (stG fa f).length := by
 have h1 := tsL_len fa.name fa.lo fa.hi (testsF f) [fa.lo]; have h2 := tests_len f.size f (Nat.le_refl _); have h3 : ([fa.lo] : List Int).length = 1 := rfl; unfold stG; omega
theorem cellsG_any (f : Fo) (d : List Fa) (n : Int) (v u : Value) (w : World) (B : Nat) (hB : B <= w.heap.size) (hf : f.In w B v) (hd : DomIn w B d u) (hz : f.size <= 100000) (hn : 0 <= n /\ n <= 1000000) :
  Calls Tryz.prog 37 #[v, u, .int .i64 n] w fun e w' => e = .returned (.int .i64 (cellsG f n d 1)) /\ Below w.heap.size w w' := by
 obtain ⟨ao, cap, rfl⟩ := hf.shape; have HF := Lib.hid hf; obtain ⟨_, rfl, hd2⟩ := hd; have HD2 := Lib.hid hd2; obtain ⟨ad, cd, rfl, l1, l2, _⟩ := SlIn.shape hd2; unfold maxLen at l2; have hb2 : Below w.heap.size w ((w.alloc (.cells #[.int .i64 f.op, .string f.name, .int .i64 f.cmp, .int .i64 f.n, .slice ao f.kids.length cap] 24)).alloc (.cells #[.slice ad d.length cd] 27)) := ((Below.refl _ _).alloc (Nat.le_refl _) _).alloc (by simp) _; have K0 : Blk ((w.alloc (.cells #[.int .i64 f.op, .string f.name, .int .i64 f.cmp, .int .i64 f.n, .slice ao f.kids.length cap] 24)).alloc (.cells #[.slice ad d.length cd] 27)) w.heap.size 24 #[.int .i64 f.op, .string f.name, .int .i64 f.cmp, .int .i64 f.n, .slice ao f.kids.length cap] := (Blk.new w 24 #[.int .i64 f.op, .string f.name, .int .i64 f.cmp, .int .i64 f.n, .slice ao f.kids.length cap]).alloc _
 have K1 : Blk ((w.alloc (.cells #[.int .i64 f.op, .string f.name, .int .i64 f.cmp, .int .i64 f.n, .slice ao f.kids.length cap] 24)).alloc (.cells #[.slice ad d.length cd] 27)) (w.heap.size + 1) 27 #[.slice ad d.length cd] := by
  have q := Blk.new (w.alloc (.cells #[.int .i64 f.op, .string f.name, .int .i64 f.cmp, .int .i64 f.n, .slice ao f.kids.length cap] 24)) 27 #[.slice ad d.length cd]
  simpa only [World.size_alloc] using q
 have hs2 : (((w.alloc (.cells #[.int .i64 f.op, .string f.name, .int .i64 f.cmp, .int .i64 f.n, .slice ao f.kids.length cap] 24)).alloc (.cells #[.slice ad d.length cd] 27))).heap.size = w.heap.size + 2 := by simp
 obtain ⟨W, hW⟩ : ∃ W, ((w.alloc (.cells #[.int .i64 f.op, .string f.name, .int .i64 f.cmp, .int .i64 f.n, .slice ao f.kids.length cap] 24)).alloc (.cells #[.slice ad d.length cd] 27)) = W := ⟨_, rfl⟩; rw [hW] at hb2 K0 K1 hs2; have HW := Lib.hid hW; have HB2 := Lib.hid hb2; have HK0 := Lib.hid K0; have HK1 := Lib.hid K1; have y0 := K1.cell 0; obtain ⟨R, hR⟩ : ∃ R, cellsG f n d 1 = R := ⟨_, rfl⟩; rw [hR]; have HR : Hid (R = cellsG f n (d.drop 0) 1) := hR.symm; clear hf hd2 hW hb2 K0 K1 hR; go_enter Tryz.func37, Tryz.ntmps37; go_upto_region 1 with (fail); rw [HW.out]; go_wp2
 go_loopw [7, 8] (fun ov iv wr => ∃ (j : Nat) (out : Int), j <= d.length /\ iv = .int .i64 j /\ ov = .int .i64 out /\ 1 <= out /\ out <= n + 1 /\ Hid (R = cellsG f n (d.drop j) out) /\ Hid (Below W.heap.size W wr)) (fun _ iv _ => d.length - (intOf iv).toNat)
 case atStart => exact ⟨0, 1, by omega, rfl, rfl, by omega, by omega, HR, Below.refl _ _⟩
 case round =>
  obtain ⟨j, out, hj, rfl, rfl, ho1, ho2, hin, hb⟩ := hrel; have hsz := hb.out.size; have HBR : Hid (Below w.heap.size w wr) := HB2.out.trans (hb.out.mono (by omega)); clear y0 HR; have y0 := (HK1.out.below hb.out).cell 0; by_cases hlt : j < d.length
  ·obtain ⟨b, o, rfl, hbB, f0, f1, f2, f3, w1, w2, w3, w4⟩ := HD2.out.at j hlt
   have hin2 := hin.out; rw [cellsG_drop f n d out j hlt] at hin2; have hsl := stG_len d[j] f; have HS := Lib.hid (fun (w' : World) (hb' : Hid (Below W.heap.size W w')) => stG_any d[j] f _ w' B (by have := hb'.out.size; omega) (Fo.In.below ((HB2.out.trans (hb'.out.mono (by omega))).mono hB) _ _ HF.out) hz); generalize d[j] = fa at *
   have HKP : Hid (∀ w', Hid (Below W.heap.size W w') -> (w'.cell? ⟨w.heap.size, 0, none⟩ = some (.int .i64 f.op) /\ w'.cell? ⟨w.heap.size, 1, none⟩ = some (.string f.name) /\ w'.cell? ⟨w.heap.size, 2, none⟩ = some (.int .i64 f.cmp) /\ w'.cell? ⟨w.heap.size, 3, none⟩ = some (.int .i64 f.n) /\ w'.cell? ⟨w.heap.size, 4, none⟩ = some (.slice ao f.kids.length cap) /\ w'.cell? ⟨w.heap.size + 1, 0, none⟩ = some (.slice (some ⟨b, o, none⟩) d.length cd) /\ w'.cell? ⟨b, o + j * 4, none⟩ = some (.string fa.name) /\ w'.cell? ⟨b, o + j * 4 + 1, none⟩ = some (.int .i64 fa.kind) /\ w'.cell? ⟨b, o + j * 4 + 2, none⟩ = some (.int .i64 fa.lo) /\ w'.cell? ⟨b, o + j * 4 + 3, none⟩ = some (.int .i64 fa.hi)) /\ Hid (Below W.heap.size W w')) := by
    intro w' hw; have z := HK0.out.below hw.out; have z1 := HK1.out.below hw.out; have hbw := HB2.out.trans (hw.out.mono (by omega)); exact ⟨⟨z.cell 0, z.cell 1, z.cell 2, z.cell 3, z.cell 4, z1.cell 0, (hbw.cell (p := ⟨b, _, none⟩) (by show b < w.heap.size; omega)).trans f0, (hbw.cell (p := ⟨b, _, none⟩) (by show b < w.heap.size; omega)).trans f1, (hbw.cell (p := ⟨b, _, none⟩) (by show b < w.heap.size; omega)).trans f2, (hbw.cell (p := ⟨b, _, none⟩) (by show b < w.heap.size; omega)).trans f3⟩, hw⟩
   have HW0 : Hid (Below W.heap.size W wr.drew) := hb.out.trans ((Below.refl wr.heap.size wr).drew.mono hsz); have HIN := Lib.hid hin2; clear f0 f1 f2 f3 w1 w2 w3 w4 hin hin2; generalize stG fa f = T at *
   have hpr1 : 1 <= out * (T.length : Int) := by
    have : 1 * 1 <= out * (T.length : Int) := Int.mul_le_mul ho1 (by omega) (by omega) (by omega); omega
   have hpr2 : out * (T.length : Int) <= 1000001 * 200001 := Int.mul_le_mul (by omega) (by omega) (by omega) (by omega); have hwr : IntKind.i64.wrap (out * (T.length : Int)) = out * (T.length : Int) := IntWalk.i64_in _ (by omega); go_upto_region 5 with (fail)
   go_region_held3 (fun w' => (w'.cell? ⟨w.heap.size, 0, none⟩ = some (.int .i64 f.op) /\ w'.cell? ⟨w.heap.size, 1, none⟩ = some (.string f.name) /\ w'.cell? ⟨w.heap.size, 2, none⟩ = some (.int .i64 f.cmp) /\ w'.cell? ⟨w.heap.size, 3, none⟩ = some (.int .i64 f.n) /\ w'.cell? ⟨w.heap.size, 4, none⟩ = some (.slice ao f.kids.length cap) /\ w'.cell? ⟨w.heap.size + 1, 0, none⟩ = some (.slice (some ⟨b, o, none⟩) d.length cd) /\ w'.cell? ⟨b, o + j * 4, none⟩ = some (.string fa.name) /\ w'.cell? ⟨b, o + j * 4 + 1, none⟩ = some (.int .i64 fa.kind) /\ w'.cell? ⟨b, o + j * 4 + 2, none⟩ = some (.int .i64 fa.lo) /\ w'.cell? ⟨b, o + j * 4 + 3, none⟩ = some (.int .i64 fa.hi)) /\ Hid (Below W.heap.size W w'))
    (exact HKP.out _ (by assumption))
    ((go_at_call 86; refine (HS.out _ (by assumption)).mono ?_; rintro e w8 ⟨ua, uc, rfl, HI8, HB8⟩; have HW8 : Hid (Below W.heap.size W w8) := HW0.out.trans (HB8.out.mono (by show W.heap.size <= wr.heap.size; omega))))
   go_split_ands; generalize hpp : out * (T.length : Int) = pr at *
   clear hpp; by_cases hg : n < pr
   ·have hgd : decide (n < pr) = true := by simpa using hg
    have HS2 := Lib.hid (show n + 1 = R by rw [HIN.out, if_pos hg]); have hwn : IntKind.i64.wrap (n + 1) = n + 1 := IntWalk.i64_in _ (by omega); clear HIN hg; go_wp2; go_ret; exact ⟨ret_int HS2.out, HB2.out.trans (HW8.out.mono (by omega))⟩
   ·have hgd : decide (n < pr) = false := by simpa using hg
    have HS2 : Hid (R = cellsG f n (d.drop (j + 1)) pr) := by show _ = _; rw [HIN.out, if_neg hg]
    clear HIN; go_wp2; go_roundw
    case rel => exact ⟨j + 1, pr, by omega, by go_num, rfl, hpr1, by omega, HS2, HW8⟩
    case measure => simp [intOf]; omega
  ·have HS2 := Lib.hid (show out = R by
    have h := hin.out
    rw [List.drop_of_length_le (by omega)] at h
    exact h.symm)
   clear hin; go_wp2; go_ret; exact ⟨ret_int HS2.out, HBR.out⟩
end
section
open Go.RowKit
theorem take_lt (l : List Int) (n : Int) : ∀ x ∈ l.take (putK l n), x < n := by
 intro x hx; obtain ⟨j, hj, rfl⟩ := List.getElem_of_mem hx; rw [List.length_take] at hj; rw [List.getElem_take]
 have h : decide (n <= l[j]) = false := by
  have q := List.not_of_lt_findIdx (xs := l) (p := fun x => decide (n <= x)) (i := j) (by show j < putK l n; omega)
  simpa using q
 simpa using h
theorem drop_ge {l : List Int} (hs : l.Pairwise (· < ·)) (n : Int) : ∀ x ∈ l.drop (putK l n), n <= x := by
 intro x hx; obtain ⟨j, hj, rfl⟩ := List.getElem_of_mem hx; rw [List.length_drop] at hj; rw [List.getElem_drop]; have hk : putK l n < l.length := by omega
 have h : n <= l[putK l n] := by
  have q := List.findIdx_getElem (xs := l) (p := fun x => decide (n <= x)) (w := hk); have q2 : decide (n <= l[putK l n]) = true := q
  simpa using q2
 rcases Nat.eq_zero_or_pos j with h0 | h0
 ·subst h0; exact h
 ·have := List.pairwise_iff_getElem.1 hs (putK l n) (putK l n + j) hk (by omega) (by omega)
  omega
theorem putL_ok {l : List Int} (n lo hi : Int) (hs : l.Pairwise (· < ·)) : (putL l n lo hi).Pairwise (· < ·) /\ ∀ x, x ∈ putL l n lo hi ↔ x ∈ l \/ (x = n /\ lo <= n /\ n <= hi) := by
 unfold putL
 split
 ·next h => exact ⟨hs, fun x => ⟨.inl, fun q => q.elim id fun q => absurd h (by omega)⟩⟩
 ·next h =>
  split
  ·next h2 =>
   refine ⟨hs, fun x => ⟨.inl, fun q => q.elim id fun q => ?_⟩⟩; rw [q.1, <- h2.2, getD_dg _ _ _ h2.1]; exact List.getElem_mem _
  ·next h2 =>
   have ht := take_lt l n; have hd := drop_ge hs n
   have hd2 : ∀ x ∈ l.drop (putK l n), n < x := by
    intro x hx; have h3 := hd x hx; rcases Int.lt_or_eq_of_le h3 with h4 | h4
    ·exact h4
    ·exfalso
     obtain ⟨j, hj, rfl⟩ := List.getElem_of_mem hx; rw [List.length_drop] at hj; rw [List.getElem_drop] at h4; have hk : putK l n < l.length := by omega
     rcases Nat.eq_zero_or_pos j with h0 | h0
     ·subst h0
      exact h2 ⟨hk, by rw [getD_dg _ _ _ hk]; exact h4.symm⟩
     ·have h5 := List.pairwise_iff_getElem.1 hs (putK l n) (putK l n + j) hk (by omega) (by omega)
      have h6 := hd l[putK l n] (List.mem_iff_getElem.2 ⟨0, by rw [List.length_drop]; omega, by rw [List.getElem_drop]; rfl⟩); omega
   have hsplit : l = l.take (putK l n) ++ l.drop (putK l n) := (List.take_append_drop _ _).symm; refine ⟨?_, fun x => ?_⟩
   ·rw [List.append_assoc, List.pairwise_append, List.pairwise_append]
    refine ⟨hs.sublist (List.take_sublist _ _), ⟨by simp, hs.sublist (List.drop_sublist _ _), fun a ha b hb => ?_⟩, fun a ha b hb => ?_⟩
    ·rw [List.mem_singleton] at ha; rw [ha]; exact hd2 b hb
    ·rcases List.mem_append.1 hb with hb | hb
     ·rw [List.mem_singleton] at hb; rw [hb]; exact ht a ha
     ·exact Int.lt_trans (ht a ha) (hd2 b hb)
   ·rw [List.append_assoc, List.mem_append, List.mem_append, List.mem_singleton]
    constructor
    ·rintro (h3 | h3 | h3)
     ·exact .inl (List.mem_of_mem_take h3)
     ·exact .inr ⟨h3, by omega, by omega⟩
     ·exact .inl (List.mem_of_mem_drop h3)
    ·rintro (h3 | h3)
     ·rw [hsplit, List.mem_append] at h3
      exact h3.elim .inl fun h4 => .inr (.inr h4)
     ·exact .inr (.inl h3.1)
theorem tsL_ok (nm : ByteArray) (lo hi : Int) : ∀ (ts : List (ByteArray × Int × Int)) (l : List Int), (∀ t ∈ ts, 0 <= t.2.2 /\ t.2.2 <= 1000000) -> l.Pairwise (· < ·) ->
  (tsL nm lo hi l ts).Pairwise (· < ·) /\ ∀ x, x ∈ tsL nm lo hi l ts ↔ x ∈ l \/ ((lo <= x /\ x <= hi) /\ ∃ t ∈ ts, t.1 = nm /\ (x = t.2.2 \/ x = t.2.2 + 1))
 | [], l, _, hs => ⟨hs, fun x => ⟨.inl, fun h => h.elim id fun h => by obtain ⟨_, t, ht, _⟩ := h; cases ht⟩⟩
 | t :: ts, l, hb, hs => by
  rw [tsL]; have hbt := hb t (List.mem_cons_self ..); have hw : wrap64 (t.2.2 + 1) = t.2.2 + 1 := IntWalk.wrap64_in _ (by omega); rw [hw]; by_cases he : eqB t.1 nm = true
  ·rw [if_pos he]
   obtain ⟨p1, p2⟩ := putL_ok t.2.2 lo hi hs; obtain ⟨p3, p4⟩ := putL_ok (t.2.2 + 1) lo hi p1; obtain ⟨q1, q2⟩ := tsL_ok nm lo hi ts _ (fun t' h => hb t' (List.mem_cons_of_mem _ h)) p3; refine ⟨q1, fun x => ?_⟩; rw [q2 x, p4 x, p2 x]; have hen := eqB_dg.1 he; constructor
   ·rintro (((h | h) | h) | ⟨h, t', h1, h2⟩)
    ·exact .inl h
    ·exact .inr ⟨by omega, t, List.mem_cons_self .., hen, .inl h.1⟩
    ·exact .inr ⟨by omega, t, List.mem_cons_self .., hen, .inr h.1⟩
    ·exact .inr ⟨h, t', List.mem_cons_of_mem _ h1, h2⟩
   ·rintro (h | ⟨h, t', h1, h2, h3⟩)
    ·exact .inl (.inl (.inl h))
    ·rcases List.mem_cons.1 h1 with rfl | h1
     ·rcases h3 with h3 | h3
      ·exact .inl (.inl (.inr ⟨h3, by omega, by omega⟩))
      ·exact .inl (.inr ⟨h3, by omega, by omega⟩)
     ·exact .inr ⟨h, t', h1, h2, h3⟩
  ·rw [if_neg he]
   obtain ⟨q1, q2⟩ := tsL_ok nm lo hi ts l (fun t' h => hb t' (List.mem_cons_of_mem _ h)) hs; refine ⟨q1, fun x => ?_⟩; rw [q2 x]; constructor
   ·rintro (h | ⟨h, t', h1, h2⟩)
    ·exact .inl h
    ·exact .inr ⟨h, t', List.mem_cons_of_mem _ h1, h2⟩
   ·rintro (h | ⟨h, t', h1, h2, h3⟩)
    ·exact .inl h
    ·rcases List.mem_cons.1 h1 with rfl | h1
     ·exact absurd (eqB_dg.2 h2) he
     ·exact .inr ⟨h, t', h1, h2, h3⟩
theorem wf_tests {d : List Fa} : ∀ (N : Nat) (f : Fo), f.size <= N -> WfF d f -> ∀ t ∈ testsF f, 0 <= t.2.2 /\ t.2.2 <= 1000000 := by
 intro N
 induction N with
 | zero => intro f h; have := f.size_pos; omega
 | succ N ih =>
  intro f hN hw t ht; obtain ⟨op, s, m, n, ks⟩ := f; rw [WfF] at hw; rw [testsF, List.mem_append, testsL_mem] at ht; rcases hw with ⟨h1, _, _, _, rfl⟩ | ⟨rfl, _, h3, _, _, rfl⟩ | ⟨h1, _, _, _, hwl⟩
  ·rw [if_neg (by omega)] at ht
   simp at ht
  ·simp at ht
   subst ht; exact h3
  ·rw [if_neg (by omega)] at ht
   simp only [List.not_mem_nil, false_or] at ht; obtain ⟨k, hk, ht⟩ := ht; refine ih k ?_ ((WfL_iff d ks).1 hwl k hk) t ht; obtain ⟨j, hj, rfl⟩ := List.getElem_of_mem hk; have := Fo.size_get ks j hj; rw [Fo.size] at hN; omega
theorem chain_pair {hi' : Int} : ∀ (l : List Int) (lo : Int), chainI hi' lo l -> (lo :: l).Pairwise (· < ·)
 | [], _, _ => by simp
 | c :: l, lo, h => by
  have ih := chain_pair l c h.2.2; refine List.pairwise_cons.2 ⟨fun x hx => ?_, ih⟩; rcases List.mem_cons.1 hx with rfl | hx
  ·exact h.1
  ·exact Int.lt_trans h.1 ((List.pairwise_cons.1 ih).1 x hx)
theorem st_same {d : List Fa} (hd : DomOk d) {f : Fo} (hw : WfF d f) {i : Nat} (hi : i < d.length) : (stG d[i] f).length = stN d f i := by
 have e1 : fnm d i = d[i].name := by unfold fnm; rw [getD_dg _ _ _ hi]
 have e2 : flo d i = d[i].lo := by unfold flo; rw [getD_dg _ _ _ hi]
 have e3 : fhi d i = d[i].hi := by unfold fhi; rw [getD_dg _ _ _ hi]
 have hlh := (hd.lohi i hi).2.1; obtain ⟨ss, g1, g2, g3⟩ := starts_law (fnm d i) hlh f; obtain ⟨p1, p2⟩ := tsL_ok d[i].name d[i].lo d[i].hi (testsF f) [d[i].lo] (wf_tests f.size f (Nat.le_refl _) hw) (by simp); have nd1 : (stG d[i] f).Nodup := List.nodup_iff_pairwise_ne.2 (p1.imp fun h => by omega)
 have nd2 : (stD d i f).Nodup := by
  unfold stD; rw [g1]; exact List.nodup_iff_pairwise_ne.2 ((chain_pair _ _ g2).imp fun h => by omega)
 unfold stN; refine (List.Perm.length_eq ((List.perm_ext_iff_of_nodup nd1 nd2).2 fun x => ?_))
 show x ∈ tsL d[i].name d[i].lo d[i].hi [d[i].lo] (testsF f) ↔ x ∈ stD d i f
 unfold stD; rw [p2 x, g1, g3 x, nums_mem, e1, e2, e3, List.mem_singleton]; rw [e2, e3] at hlh; constructor
 ·rintro (h | ⟨h, h1⟩)
  ·exact ⟨by omega, .inl h⟩
  ·exact ⟨h, .inr h1⟩
 ·rintro ⟨h, h1⟩
  exact h1.elim .inl fun h1 => .inr ⟨h, h1⟩
theorem cells_le {d : List Fa} (hd : DomOk d) {f : Fo} (hw : WfF d f) {n : Int} : ∀ (k j : Nat) (out : Int), d.length - j = k -> j <= d.length -> out = (prodF (stN d f) j : Nat) -> cellsG f n (d.drop j) out <= n -> ((cellsD d f : Nat) : Int) <= n := by
 intro k
 induction k with
 | zero =>
  intro j out h1 h2 h3 h4; have : j = d.length := by omega
  subst this; rw [List.drop_length] at h4; have h4 : out <= n := h4; unfold cellsD; omega
 | succ k ih =>
  intro j out h1 h2 h3 h4; have hj : j < d.length := by omega
  rw [cellsG_drop f n d out j hj] at h4; have hs := st_same hd hw hj
  split at h4
  ·omega
  ·refine ih (j + 1) _ (by omega) hj ?_ h4
   rw [prodF, hs, h3]; exact (Int.natCast_mul _ _).symm
theorem small_cells {d : List Fa} (hd : DomOk d) {f : Fo} (hw : WfF d f) {n : Nat} (h : cellsG f n d 1 <= n) : cellsD d f <= n := by
 have := cells_le hd hw d.length 0 1 (by omega) (Nat.zero_le _) rfl h; omega
end
end Go.Proofs.YtejbgoigkefnfaaGreatDoor
