/- Plain core of chapter 11: a formula is a condition that changes only at its starts; its diagram and the opposite of it. No program. -/
import Derived.Test.YtejbgoigkefnfaaGreatDoorDgGP
import Derived.BigQuiet
import Derived.Test.YtejbgoigkefnfaaGreatDoorDgPl
import Derived.Test.YtejbgoigkefnfaaGreatDoorDgBP
import Derived.Test.YtejbgoigkefnfaaGreatDoorDgSm
namespace Go.Proofs.YtejbgoigkefnfaaGreatDoor
section
variable {nf : Nat} {lo hi : Nat -> Int}
def mixC (i : Nat) (p c : Nat -> Int) : Nat -> Int := fun j => if j < i then p j else c j
theorem mix_fits {i : Nat} {p c : Nat -> Int} (hp : fitsC nf lo hi p) (hc : fitsC nf lo hi c) : fitsC nf lo hi (mixC i p c) := fun j hj => by
 unfold mixC
 split
 ·exact hp j hj
 ·exact hc j hj
structure CellF (nf : Nat) (lo hi : Nat -> Int) (ss : Nat -> List Int) (F : (Nat -> Int) -> Bool) : Prop where
 chain : ∀ i, i < nf -> chainI (hi i) (lo i) (ss i)
 same : ∀ c c', fitsC nf lo hi c -> fitsC nf lo hi c' -> (∀ j, j < nf -> nextI (ss j) (c j) = nextI (ss j) (c' j)) -> F c = F c'
def nS (ss : Nat -> List Int) (j : Nat) : Nat := (ss j).length + 1
def digC (ss : Nat -> List Int) (p : Nat -> Int) (j : Nat) : Nat := nextI (ss j) (p j)
theorem dig_lt (ss : Nat -> List Int) (p : Nat -> Int) (j : Nat) : digC ss p j < nS ss j := Nat.lt_succ_of_le (nextI_le _ _)
theorem nS_pos (ss : Nat -> List Int) (j : Nat) : 1 <= nS ss j := Nat.succ_le_succ (Nat.zero_le _)
def restC (lo : Nat -> Int) (ss : Nat -> List Int) (F : (Nat -> Int) -> Bool) : Nat -> Nat -> (Nat -> Int) -> List Bool
 | 0, _, c => [F c]
 | n + 1, i, c => (lo i :: ss i).flatMap fun v => restC lo ss F n (i + 1) (updC c i v)
def prodR (b : Nat -> Nat) : Nat -> Nat -> Nat
 | 0, _ => 1
 | n + 1, i => b i * prodR b n (i + 1)
theorem flat_len {α β : Type} (g : α -> List β) (n : Nat) : ∀ l : List α, (∀ v ∈ l, (g v).length = n) -> (l.flatMap g).length = l.length * n
 | [], _ => by simp
 | a :: l, h => by
  rw [List.flatMap_cons, List.length_append, flat_len g n l (fun v hv => h v (List.mem_cons_of_mem _ hv)), h a (List.mem_cons_self ..), List.length_cons, Nat.add_mul, Nat.one_mul, Nat.add_comm]
theorem flat_inj {α β : Type} (g g' : α -> List β) (n : Nat) : ∀ l : List α, (∀ v ∈ l, (g v).length = n) -> (∀ v ∈ l, (g' v).length = n) -> l.flatMap g = l.flatMap g' -> ∀ v ∈ l, g v = g' v
 | [], _, _, _, v, hv => by cases hv
 | a :: l, h, h', e, v, hv => by
  rw [List.flatMap_cons, List.flatMap_cons] at e; obtain ⟨e1, e2⟩ := List.append_inj e (by rw [h a (List.mem_cons_self ..), h' a (List.mem_cons_self ..)]); rcases List.mem_cons.1 hv with rfl | hv
  ·exact e1
  ·exact flat_inj g g' n l (fun v hv => h v (List.mem_cons_of_mem _ hv)) (fun v hv => h' v (List.mem_cons_of_mem _ hv)) e2 v hv
theorem rest_len (lo : Nat -> Int) (ss : Nat -> List Int) (F : (Nat -> Int) -> Bool) : ∀ (n i : Nat) (c : Nat -> Int), (restC lo ss F n i c).length = prodR (nS ss) n i
 | 0, _, _ => rfl
 | n + 1, i, c => by
  rw [restC, flat_len _ (prodR (nS ss) n (i + 1)) _ (fun v _ => rest_len lo ss F n (i + 1) _), prodR]
  rfl
theorem start_mem (lo : Nat -> Int) (ss : Nat -> List Int) (j : Nat) (v : Int) : (lo j :: ss j).getD (nextI (ss j) v) 0 ∈ lo j :: ss j := by
 have h : nextI (ss j) v < (lo j :: ss j).length := by have := nextI_le (ss j) v; simp; omega
 rw [getD_dg _ _ _ h]; exact List.getElem_mem h
theorem start_idem {h lo : Int} {l : List Int} (hc : chainI h lo l) {v : Int} (hv : lo <= v) : nextI l ((lo :: l).getD (nextI l v) 0) = nextI l v :=
 next_start (cuts := l) hc hv fun _ hm => List.mem_cons_of_mem _ hm
theorem start_range {h lo : Int} {l : List Int} (hc : chainI h lo l) {v : Int} (hv : lo <= v) : lo <= (lo :: l).getD (nextI l v) 0 /\ (lo :: l).getD (nextI l v) 0 <= v := ⟨(start_at l lo v hc hv).2.1, (start_at l lo v hc hv).1⟩
theorem fits_updC {c : Nat -> Int} {i : Nat} {v : Int} (fc : fitsC nf lo hi c) (h1 : lo i <= v) (h2 : v <= hi i) : fitsC nf lo hi (updC c i v) := fun j hj => by
 unfold updC
 split
 ·next e => subst e; exact ⟨h1, h2⟩
 ·exact fc j hj
theorem rest_inj {ss : Nat -> List Int} {F : (Nat -> Int) -> Bool} (hF : CellF nf lo hi ss F) : ∀ (n i : Nat) (c c' : Nat -> Int), i + n = nf -> fitsC nf lo hi c -> fitsC nf lo hi c' -> restC lo ss F n i c = restC lo ss F n i c' ->
  ∀ e, fitsC nf lo hi e -> F (mixC i c e) = F (mixC i c' e)
 | 0, i, c, c', hn, fc, fc', h, e, fe => by
  have h : F c = F c' := by simpa [restC] using h
  have h1 : F (mixC i c e) = F c := hF.same _ _ (mix_fits fc fe) fc (fun j hj => by unfold mixC; rw [if_pos (by omega)]); have h2 : F (mixC i c' e) = F c' := hF.same _ _ (mix_fits fc' fe) fc' (fun j hj => by unfold mixC; rw [if_pos (by omega)]); rw [h1, h2, h]
 | n + 1, i, c, c', hn, fc, fc', h, e, fe => by
  have hi' : i < nf := by omega
  have hch := hF.chain i hi'; have hr := start_range hch (fe i hi').1; have hm := start_mem lo ss i (e i); rw [restC, restC] at h; have hv := flat_inj _ _ (prodR (nS ss) n (i + 1)) _ (fun v _ => rest_len lo ss F n (i + 1) _) (fun v _ => rest_len lo ss F n (i + 1) _) h _ hm; have f1 := fits_updC fc (i := i) hr.1 (by have := (fe i hi').2; omega); have f2 := fits_updC fc' (i := i) hr.1 (by have := (fe i hi').2; omega); have ih := rest_inj hF n (i + 1) _ _ (by omega) f1 f2 hv e fe
  have key : ∀ c : Nat -> Int, fitsC nf lo hi c -> fitsC nf lo hi (updC c i ((lo i :: ss i).getD (nextI (ss i) (e i)) 0)) -> F (mixC i c e) = F (mixC (i + 1) (updC c i ((lo i :: ss i).getD (nextI (ss i) (e i)) 0)) e) := fun c fc f1 => by
   refine hF.same _ _ (mix_fits fc fe) (mix_fits f1 fe) fun j hj => ?_
   unfold mixC updC; rcases Nat.lt_trichotomy j i with q | q | q
   ·rw [if_pos q, if_pos (by omega), if_neg (by omega)]
   ·subst q
    rw [if_neg (Nat.lt_irrefl _), if_pos (by omega), if_pos rfl]; exact (start_idem hch (fe j hi').1).symm
   ·rw [if_neg (by omega), if_neg (by omega)]
  rw [key c fc f1, key c' fc' f2]; exact ih
theorem prod_split (b : Nat -> Nat) : ∀ (n i : Nat), prodF b i * prodR b n i = prodF b (i + n)
 | 0, i => by rw [prodR, Nat.mul_one, Nat.add_zero]
 | n + 1, i => by
  rw [prodR, <- Nat.mul_assoc]; have := prod_split b n (i + 1); rw [prodF] at this; rw [this]; congr 1
  omega
theorem prodF_pos {b : Nat -> Nat} (h : ∀ j, 1 <= b j) : ∀ n, 1 <= prodF b n
 | 0 => Nat.le_refl 1
 | n + 1 => Nat.mul_le_mul (prodF_pos h n) (h n)
def codeC (nf : Nat) (lo : Nat -> Int) (ss : Nat -> List Int) (F : (Nat -> Int) -> Bool) (i : Nat) (p : Nat -> Int) : Nat :=
 if prodF (nS ss) i <= 2 ^ (400 / prodF (nS ss) i) then radF (nS ss) (digC ss p) i else bitsN (restC lo ss F (nf - i) i p)
theorem code_lt {ss : Nat -> List Int} {F : (Nat -> Int) -> Bool} (h400 : prodF (nS ss) nf <= 400) {i : Nat} (hi' : i <= nf) (p : Nat -> Int) : codeC nf lo ss F i p < capG (prodF (nS ss) i) := by
 unfold codeC capG
 split
 ·next h =>
  rw [Nat.min_eq_left h]; exact rad_lt fun j _ => dig_lt ss p j
 ·next h =>
  rw [Nat.min_eq_right (by omega)]; refine Nat.lt_of_lt_of_le (bitsN_lt _) (Nat.pow_le_pow_right (by decide) ?_); rw [rest_len, Nat.le_div_iff_mul_le (prodF_pos (nS_pos ss) i), Nat.mul_comm, prod_split, show i + (nf - i) = nf by omega]; exact h400
theorem code_inj {ss : Nat -> List Int} {F : (Nat -> Int) -> Bool} (hF : CellF nf lo hi ss F) {i : Nat} (hi' : i <= nf) {p p' : Nat -> Int} (fp : fitsC nf lo hi p) (fp' : fitsC nf lo hi p') (h : codeC nf lo ss F i p = codeC nf lo ss F i p') :
  ∀ e, fitsC nf lo hi e -> F (mixC i p e) = F (mixC i p' e) := by
 unfold codeC at h
 split at h
 ·intro e fe
  have hd := rad_inj (fun j _ => dig_lt ss p j) (fun j _ => dig_lt ss p' j) h; refine hF.same _ _ (mix_fits fp fe) (mix_fits fp' fe) fun j hj => ?_
  unfold mixC
  split
  ·next hji => exact hd j hji
  ·rfl
 ·exact rest_inj hF (nf - i) i p p' (by omega) fp fp' (bitsN_inj (by rw [rest_len, rest_len]) h)
def offC (s t : Nat -> Nat) : Nat -> Nat
 | 0 => 0
 | i + 1 => offC s t i + if 1 < s i \/ 1 < t i then capG (prodF s i) * capG (prodF t i) else 0
theorem off_mono (s t : Nat -> Nat) : ∀ (n i : Nat), offC s t i <= offC s t (i + n)
 | 0, _ => Nat.le_refl _
 | n + 1, i => Nat.le_trans (off_mono s t n i) (Nat.le_add_right _ _)
def listP (s t : Nat -> Nat) : Nat -> Nat -> List (Nat × Nat)
 | 0, _ => []
 | n + 1, i => (s i, t i) :: listP s t n (i + 1)
theorem off_pairs (s t : Nat -> Nat) : ∀ (n i : Nat), offC s t i + pairsT (prodF s i) (prodF t i) (listP s t n i) = offC s t (i + n)
 | 0, i => rfl
 | n + 1, i => by
  have := off_pairs s t n (i + 1); rw [listP, pairsT, <- Nat.add_assoc]; rw [offC, prodF, prodF] at this; rw [this]; congr 1
  omega
theorem listP_fst (s t : Nat -> Nat) : ∀ (n i : Nat), prodL ((listP s t n i).map Prod.fst) = prodR s n i
 | 0, _ => rfl
 | n + 1, i => by rw [listP, List.map_cons, prodL, listP_fst s t n (i + 1), prodR]
theorem listP_snd (s t : Nat -> Nat) : ∀ (n i : Nat), prodL ((listP s t n i).map Prod.snd) = prodR t n i
 | 0, _ => rfl
 | n + 1, i => by rw [listP, List.map_cons, prodL, listP_snd s t n (i + 1), prodR]
theorem listP_pos {s t : Nat -> Nat} (hs : ∀ j, 1 <= s j) (ht : ∀ j, 1 <= t j) : ∀ (n i : Nat), ∀ p ∈ listP s t n i, 1 <= p.1 /\ 1 <= p.2
 | 0, _, p, h => by cases h
 | n + 1, i, p, h => by
  rcases List.mem_cons.1 h with rfl | h
  ·exact ⟨hs i, ht i⟩
  ·exact listP_pos hs ht n (i + 1) p h
theorem off_few {s t : Nat -> Nat} (hs : ∀ j, 1 <= s j) (ht : ∀ j, 1 <= t j) (n : Nat) (h1 : prodF s n <= 400) (h2 : prodF t n <= 400) : offC s t n <= 17792 := by
 have h := off_pairs s t n 0; rw [Nat.zero_add, offC, Nat.zero_add, prodF, prodF] at h; rw [<- h]; have e1 := prod_split s n 0; have e2 := prod_split t n 0; rw [prodF, Nat.one_mul, Nat.zero_add] at e1 e2; exact pairs_few _ (listP_pos hs ht n 0) (by rw [listP_fst, e1]; exact h1) (by rw [listP_snd, e2]; exact h2)
theorem place_one {s t : Nat -> Nat} {i i' u u' v v' : Nat} (hi : 1 < s i \/ 1 < t i) (hi' : 1 < s i' \/ 1 < t i') (hu : u < capG (prodF s i)) (hv : v < capG (prodF t i)) (hu' : u' < capG (prodF s i')) (hv' : v' < capG (prodF t i'))
  (h : offC s t i + (u * capG (prodF t i) + v) = offC s t i' + (u' * capG (prodF t i') + v')) : i = i' /\ u = u' /\ v = v' := by
 have lt : ∀ {i u v : Nat}, (1 < s i \/ 1 < t i) -> u < capG (prodF s i) -> v < capG (prodF t i) -> offC s t i + (u * capG (prodF t i) + v) < offC s t (i + 1) := by
  intro i u v hi hu hv; rw [offC, if_pos hi]; have : (u + 1) * capG (prodF t i) <= capG (prodF s i) * capG (prodF t i) := Nat.mul_le_mul_right _ hu; rw [Nat.add_mul] at this; omega
 have l1 := lt hi hu hv; have l2 := lt hi' hu' hv'; rcases Nat.lt_trichotomy i i' with q | q | q
 ·have := off_mono s t (i' - (i + 1)) (i + 1)
  rw [show i + 1 + (i' - (i + 1)) = i' by omega] at this; omega
 ·subst q
  refine ⟨rfl, ?_⟩; have h : u * capG (prodF t i) + v = u' * capG (prodF t i) + v' := by omega
  rcases Nat.lt_trichotomy u u' with q | q | q
  ·have : (u + 1) * capG (prodF t i) <= u' * capG (prodF t i) := Nat.mul_le_mul_right _ q
   rw [Nat.add_mul] at this; omega
  ·subst q; exact ⟨rfl, by omega⟩
  ·have : (u' + 1) * capG (prodF t i) <= u * capG (prodF t i) := Nat.mul_le_mul_right _ q
   rw [Nat.add_mul] at this; omega
 ·have := off_mono s t (i - (i' + 1)) (i' + 1)
  rw [show i' + 1 + (i - (i' + 1)) = i by omega] at this; omega
end
section
section
variable {nf : Nat} {lo hi : Nat -> Int} {a b : List Dn} {A B F H : (Nat -> Nat -> Int) -> Bool}
theorem place_lt {s t : Nat -> Nat} {i u v n : Nat} (hn : i < n) (hi : 1 < s i \/ 1 < t i) (hu : u < capG (prodF s i)) (hv : v < capG (prodF t i)) : offC s t i + (u * capG (prodF t i) + v) < offC s t n := by
 have h1 : offC s t i + (u * capG (prodF t i) + v) < offC s t (i + 1) := by
  rw [offC, if_pos hi]; have : (u + 1) * capG (prodF t i) <= capG (prodF s i) * capG (prodF t i) := Nat.mul_le_mul_right _ hu; rw [Nat.add_mul] at this; omega
 have := off_mono s t (n - (i + 1)) (i + 1); rw [show i + 1 + (n - (i + 1)) = n by omega] at this; omega
end
variable {nf : Nat} {lo hi : Nat -> Int} {a b : List Dn} {A B : Nat -> (Nat -> Int) -> Bool} {F H : (Nat -> Int) -> Bool}
def RJ (nf : Nat) (lo hi : Nat -> Int) (a b : List Dn) (A B : Nat -> (Nat -> Int) -> Bool) (F H : (Nat -> Int) -> Bool) (x y : Nat) : Prop :=
 x < a.length /\ y < b.length /\ ∃ p, fitsC nf lo hi p /\ ∀ c, fitsC nf lo hi c -> A x c = F (mixC (minR nf a b x y) p c) /\ B y c = H (mixC (minR nf a b x y) p c)
theorem rj_first (ga : 0 < a.length) (gb : 0 < b.length) (hd : ∀ i, i < nf -> lo i <= hi i) (gA : GoodT nf lo hi a A) (gB : GoodT nf lo hi b B) (hA : ∀ c, fitsC nf lo hi c -> A 0 c = F c) (hB : ∀ c, fitsC nf lo hi c -> B 0 c = H c) : RJ nf lo hi a b A B F H 0 0 := by
 have fl : fitsC nf lo hi lo := fun i h => ⟨Int.le_refl _, hd i h⟩
 refine ⟨ga, gb, lo, fl, fun c fc => ⟨?_, ?_⟩⟩
 ·rw [<- hA _ (mix_fits fl fc)]
  refine indepD gA.table gA.reads _ 0 ga (Nat.le_refl _) _ _ fc (mix_fits fl fc) fun j hj _ => ?_
  unfold mixC; have : minR nf a b 0 0 <= rankD nf (a.getD 0 default) := Nat.min_le_left _ _; rw [if_neg (by omega)]
 ·rw [<- hB _ (mix_fits fl fc)]
  refine indepD gB.table gB.reads _ 0 gb (Nat.le_refl _) _ _ fc (mix_fits fl fc) fun j hj _ => ?_
  unfold mixC; have : minR nf a b 0 0 <= rankD nf (b.getD 0 default) := Nat.min_le_right _ _; rw [if_neg (by omega)]
theorem rj_side (g : GoodT nf lo hi a A) {x i i' : Nat} (hx : x < a.length) (hi' : i < nf) (hr : i <= rankD nf (a.getD x default)) {v : Int} (h1 : lo i <= v) (h2 : v <= hi i) (hr' : i' <= rankD nf (a.getD (stepN a x i v) default)) (hii : i < i') {p : Nat -> Int} (fp : fitsC nf lo hi p)
  (hd : ∀ i, i < nf -> lo i <= hi i) (hA : ∀ c, fitsC nf lo hi c -> A x c = F (mixC i p c)) : ∀ c, fitsC nf lo hi c -> A (stepN a x i v) c = F (mixC i' (mixC i p (updC lo i v)) c) := by
 intro c fc; have fl : fitsC nf lo hi lo := fun i h => ⟨Int.le_refl _, hd i h⟩
 have f1 : fitsC nf lo hi (mixC i p (updC lo i v)) := mix_fits fp (fits_updC fl h1 h2); have f2 := mix_fits (i := i') f1 fc; have hs := stepN_lt g hx hi' hr v
 have e1 : A (stepN a x i v) c = A (stepN a x i v) (mixC i' (mixC i p (updC lo i v)) c) := by
  refine indepD g.table g.reads _ _ hs.1 (Nat.le_refl _) _ _ fc f2 fun j hj _ => ?_
  show c j = if j < i' then _ else c j
  rw [if_neg (by omega)]
 have e2 : (mixC i' (mixC i p (updC lo i v)) c) i = v := by
  unfold mixC updC; rw [if_pos hii, if_neg (Nat.lt_irrefl _), if_pos rfl]
 have e3 := stepN_means g hx (i := i) f2; rw [e2] at e3; rw [e1, e3, hA _ f2]; congr 1
 funext j; unfold mixC updC; by_cases hj : j < i
 ·rw [if_pos hj, if_pos (by omega), if_pos hj]
 ·rw [if_neg hj]
theorem rj_step (gA : GoodT nf lo hi a A) (gB : GoodT nf lo hi b B) {x y : Nat} {v : Int} (h : RJ nf lo hi a b A B F H x y) (hi' : minR nf a b x y < nf) (h1 : lo (minR nf a b x y) <= v) (h2 : v <= hi (minR nf a b x y)) :
  RJ nf lo hi a b A B F H (stepN a x (minR nf a b x y) v) (stepN b y (minR nf a b x y) v) := by
 obtain ⟨hx, hy, p, fp, hp⟩ := h; have hra : minR nf a b x y <= rankD nf (a.getD x default) := Nat.min_le_left _ _; have hrb : minR nf a b x y <= rankD nf (b.getD y default) := Nat.min_le_right _ _; have sa := stepN_lt gA hx hi' hra v; have sb := stepN_lt gB hy hi' hrb v
 have hlt : minR nf a b x y < minR nf a b (stepN a x (minR nf a b x y) v) (stepN b y (minR nf a b x y) v) := by
  show _ < min _ _
  omega
 have fl : fitsC nf lo hi lo := fun i h => ⟨Int.le_refl _, gA.dom i h⟩
 refine ⟨sa.1, sb.1, mixC (minR nf a b x y) p (updC lo (minR nf a b x y) v), mix_fits fp (fits_updC fl h1 h2), fun c fc => ⟨?_, ?_⟩⟩
 ·exact rj_side gA hx hi' hra h1 h2 (Nat.min_le_left _ _) hlt fp gA.dom (fun c fc => (hp c fc).1) c fc
 ·exact rj_side gB hy hi' hrb h1 h2 (Nat.min_le_right _ _) hlt fp gB.dom (fun c fc => (hp c fc).2) c fc
theorem and_cap {s t : Nat -> List Int} (hd : ∀ i, i < nf -> lo i <= hi i) (hF : CellF nf lo hi s F) (hH : CellF nf lo hi t H) (h1 : prodF (nS s) nf <= 400) (h2 : prodF (nS t) nf <= 400) {m : List Dn} {dn : MemoJ}
  (h : InvJ nf lo hi a b A B (RJ nf lo hi a b A B F H) m dn) : m.length <= 17794 := by
 have hoff := off_few (nS_pos s) (nS_pos t) nf h1 h2; have g := h.made.good hd
 have hcap := cap_codes h.made hd (offC (nS s) (nS t) nf) (fun k z => ∃ i p, i < nf /\ (1 < nS s i \/ 1 < nS t i) /\ fitsC nf lo hi p /\ z = offC (nS s) (nS t) i + (codeC nf lo s F i p * capG (prodF (nS t) i) + codeC nf lo t H i p) /\
  ∀ c, fitsC nf lo hi c -> readT m k c = (F (mixC i p c) && H (mixC i p c))) ?_ ?_
 ·omega
 ·intro k hk hkk
  obtain ⟨x, y, ⟨_, _, p, fp, hp⟩, hfact, hmean⟩ := h.from_ k hk hkk; have hin := (h.made.table k hk).inner hkk; have hi' : minR nf a b x y < nf := by have := hin.2.2.1; rw [hfact, Int.toNat_natCast] at this; exact this
  have hm : ∀ c, fitsC nf lo hi c -> readT m k c = (F (mixC (minR nf a b x y) p c) && H (mixC (minR nf a b x y) p c)) := fun c fc => by rw [hmean c fc, (hp c fc).1, (hp c fc).2]
  have h2 : 1 < nS s (minR nf a b x y) \/ 1 < nS t (minR nf a b x y) := by
   rcases Nat.lt_or_ge 1 (nS s (minR nf a b x y)) with q | q
   ·exact .inl q
   ·rcases Nat.lt_or_ge 1 (nS t (minR nf a b x y)) with q' | q'
    ·exact .inr q'
    ·exfalso
     refine inner_looks g hk hkk fun c v fc v1 v2 => ?_
     rw [hfact, Int.toNat_natCast] at v1 v2 ⊢; have f1 := fits_updC fc v1 v2; rw [hm _ f1, hm _ fc]; have es : s (minR nf a b x y) = [] := by unfold nS at q; exact List.length_eq_zero_iff.1 (by omega)
     have et : t (minR nf a b x y) = [] := by unfold nS at q'; exact List.length_eq_zero_iff.1 (by omega)
     have key : ∀ {G : (Nat -> Int) -> Bool} {u : Nat -> List Int}, CellF nf lo hi u G -> u (minR nf a b x y) = [] -> G (mixC (minR nf a b x y) p (updC c (minR nf a b x y) v)) = G (mixC (minR nf a b x y) p c) := fun hG eu =>
      hG.same _ _ (mix_fits fp f1) (mix_fits fp fc) fun j hj => by
       unfold mixC updC; rcases Nat.lt_trichotomy j (minR nf a b x y) with r | r | r
       ·rw [if_pos r, if_pos r]
       ·rw [r, eu]; rfl
       ·rw [if_neg (by omega), if_neg (by omega), if_neg (by omega)]
     rw [key hF es, key hH et]
  exact ⟨_, place_lt hi' h2 (code_lt h1 (by omega) p) (code_lt (by assumption) (by omega) p), _, p, hi', h2, fp, rfl, hm⟩
 ·rintro k k' z hk hk' ⟨i, p, q1, q2, q3, q4, q5⟩ ⟨i', p', q1', q2', q3', q4', q5'⟩ c fc
  obtain ⟨rfl, e1, e2⟩ := place_one q2 q2' (code_lt h1 (by omega) p) (code_lt h2 (by omega) p) (code_lt h1 (by omega) p') (code_lt h2 (by omega) p') (q4.symm.trans q4'); rw [q5 c fc, q5' c fc, code_inj hF (by omega) q3 q3' e1 c fc, code_inj hH (by omega) q3 q3' e2 c fc]
def sJ (nf : Nat) (lo : Nat -> Int) (a b : List Dn) (x y : Nat) : List Int :=
 compL ((lo (minR nf a b x y) :: ((if rankD nf (a.getD x default) = minR nf a b x y then (a.getD x default).cuts else []) ++ (if rankD nf (b.getD y default) = minR nf a b x y then (b.getD y default).cuts else []))).mergeSort fun x y => decide (x <= y))
theorem cuts_in (g : GoodT nf lo hi a A) {x i : Nat} (hx : x < a.length) (hr : rankD nf (a.getD x default) = i) : ∀ c ∈ (a.getD x default).cuts, lo i <= c /\ c <= hi i := by
 intro c hc; by_cases hk : (a.getD x default).kids = []
 ·rw [((g.table x hx).leaf hk).2] at hc; cases hc
 ·unfold rankD at hr
  rw [if_neg hk] at hr; have hin := (g.table x hx).inner hk; have := chain_mem _ _ hin.2.2.2.2.2.1 c hc; rw [hr] at this; omega
theorem sJ_ok (gA : GoodT nf lo hi a A) (gB : GoodT nf lo hi b B) {x y : Nat} (hx : x < a.length) (hy : y < b.length) (hi' : minR nf a b x y < nf) : ∃ ss, sJ nf lo a b x y = lo (minR nf a b x y) :: ss /\ chainI (hi (minR nf a b x y)) (lo (minR nf a b x y)) ss /\
   ((a.getD x default).kids ≠ [] -> (a.getD x default).fact = (minR nf a b x y : Nat) -> ∀ c ∈ (a.getD x default).cuts, c ∈ lo (minR nf a b x y) :: ss) /\
   ((b.getD y default).kids ≠ [] -> (b.getD y default).fact = (minR nf a b x y : Nat) -> ∀ c ∈ (b.getD y default).cuts, c ∈ lo (minR nf a b x y) :: ss) := by
 unfold sJ; generalize hi0 : minR nf a b x y = i at *
 generalize hl : (lo i :: ((if rankD nf (a.getD x default) = i then (a.getD x default).cuts else []) ++ (if rankD nf (b.getD y default) = i then (b.getD y default).cuts else []))) = l
 have hml : ∀ c ∈ l, lo i <= c /\ c <= hi i := by
  intro c hc; rw [<- hl] at hc; rcases List.mem_cons.1 hc with rfl | hc
  ·exact ⟨Int.le_refl _, gA.dom i hi'⟩
  ·rcases List.mem_append.1 hc with hc | hc
   ·split at hc
    ·next hr => exact cuts_in gA hx hr c hc
    ·cases hc
   ·split at hc
    ·next hr => exact cuts_in gB hy hr c hc
    ·cases hc
 have hs : (l.mergeSort fun x y => decide (x <= y)).Pairwise (· <= ·) := by
  have := List.pairwise_mergeSort (le := fun x y : Int => decide (x <= y)) (fun a b c h1 h2 => by simp at *; omega) (fun a b => by simp; omega) l; exact this.imp fun h => by simpa using h
 obtain ⟨ls, ss, e1, e2, e3, e4⟩ := starts_chain hs (fun x hx => hml x (List.mem_mergeSort.1 hx)) (List.mem_mergeSort.2 (by rw [<- hl]; exact List.mem_cons_self ..)); have hmem : ∀ c ∈ l, c ∈ lo i :: ss := fun c hc => (e4 c).2 (List.mem_mergeSort.2 hc)
 refine ⟨ss, by rw [e1, e2]; rfl, e3, fun hk hf c hc => ?_, fun hk hf c hc => ?_⟩
 ·refine hmem c ?_
  rw [<- hl]; refine List.mem_cons_of_mem _ (List.mem_append.2 (.inl ?_)); have : rankD nf (a.getD x default) = i := by unfold rankD; rw [if_neg hk, hf, Int.toNat_natCast]
  rw [if_pos this]; exact hc
 ·refine hmem c ?_
  rw [<- hl]; refine List.mem_cons_of_mem _ (List.mem_append.2 (.inr ?_)); have : rankD nf (b.getD y default) = i := by unfold rankD; rw [if_neg hk, hf, Int.toNat_natCast]
  rw [if_pos this]; exact hc
structure AndB (d : List Fa) (a b : List Dn) : Prop where
 va : ValidG d a
 vb : ValidG d b
 ex : ∃ R : Nat -> Nat -> Prop, R 0 0 /\ (∀ m dn, InvJ d.length (flo d) (fhi d) a b (readG d a) (readG d b) R m dn -> m.length <= 20000) /\ (∀ x y, R x y -> x < a.length /\ y < b.length) /\
  ∀ x y v, R x y -> minR d.length a b x y < d.length -> v ∈ sJ d.length (flo d) a b x y -> R (stepN a x (minR d.length a b x y) v) (stepN b y (minR d.length a b x y) v)
variable {d : List Fa}
theorem sJ_in (va : ValidG d a) (vb : ValidG d b) {x y : Nat} (hx : x < a.length) (hy : y < b.length) (hi' : minR d.length a b x y < d.length) {v : Int} (hv : v ∈ sJ d.length (flo d) a b x y) : flo d (minR d.length a b x y) <= v /\ v <= fhi d (minR d.length a b x y) := by
 obtain ⟨ss, e1, e2, _⟩ := sJ_ok va.good vb.good hx hy hi'; rw [e1] at hv; rcases List.mem_cons.1 hv with rfl | hv
 ·exact ⟨Int.le_refl _, va.good.dom _ hi'⟩
 ·have := chain_mem _ _ e2 v hv
  omega
theorem andB_cells (va : ValidG d a) (vb : ValidG d b) {s t : Nat -> List Int} (hF : CellF d.length (flo d) (fhi d) s F) (hH : CellF d.length (flo d) (fhi d) t H) (h1 : prodF (nS s) d.length <= 400) (h2 : prodF (nS t) d.length <= 400)
  (hA : ∀ c, fitsC d.length (flo d) (fhi d) c -> readG d a 0 c = F c) (hB : ∀ c, fitsC d.length (flo d) (fhi d) c -> readG d b 0 c = H c) : AndB d a b := by
 refine ⟨va, vb, RJ d.length (flo d) (fhi d) a b (readG d a) (readG d b) F H, rj_first va.pos vb.pos va.good.dom va.good vb.good hA hB, fun m dn h => ?_, fun x y h => ⟨h.1, h.2.1⟩, fun x y v h hi' hv => ?_⟩
 ·have := and_cap va.good.dom hF hH h1 h2 h
  omega
 ·have := sJ_in va vb h.1 h.2.1 hi' hv
  exact rj_step va.good vb.good h hi' this.1 this.2
def bothG (d : List Fa) (a b : List Dn) (f : Nat) (m : List Dn) (dn : MemoJ) (x y : Nat) : (List Dn × MemoJ) × Nat := bothD d.length a b (sJ d.length (flo d) a b) 20000 f m dn x y
def rootJ (d : List Fa) (a b : List Dn) : (List Dn × MemoJ) × Nat := bothG d a b (d.length + 1) [] [] 0 0
def tableJ (d : List Fa) (a b : List Dn) : List Dn := fromD (rootJ d a b).1.1 (visitD (rootJ d a b).1.1 (d.length + 1) [] (rootJ d a b).2)
theorem inv_firstJ (R : Nat -> Nat -> Prop) (A B : Nat -> (Nat -> Int) -> Bool) : InvJ nf lo hi a b A B R [] [] := ⟨Made.nil, fun k hk => absurd hk (Nat.not_lt_zero k), fun x y k h => by cases h⟩
theorem rootJ_ok (h : AndB d a b) : ∃ R, InvJ d.length (flo d) (fhi d) a b (readG d a) (readG d b) R (rootJ d a b).1.1 (rootJ d a b).1.2 /\ NodeJ d.length (flo d) (fhi d) a b (readG d a) (readG d b) (rootJ d a b).1.1 0 0 (rootJ d a b).2 /\ (rootJ d a b).1.1.length <= 20000 := by
 obtain ⟨R, h0, hcap, hl, hs⟩ := h.ex; obtain ⟨h1, h2, _⟩ := both_ok h.va.good h.vb.good (R := R) (S := sJ d.length (flo d) a b) (L := 20000) hcap hl hs (fun x y hR hi' => sJ_ok h.va.good h.vb.good (hl x y hR).1 (hl x y hR).2 hi') (d.length + 1) [] [] 0 0 (inv_firstJ _ _ _) h0 (by omega); exact ⟨R, h1, h2, hcap _ _ h1⟩
theorem and_valid (h : AndB d a b) : ValidG d (tableJ d a b) /\ ∀ c, fitsC d.length (flo d) (fhi d) c -> readG d (tableJ d a b) 0 c = (readG d a 0 c && readG d b 0 c) := by
 obtain ⟨R, hI, hN, hcap⟩ := rootJ_ok h; have g := hI.made.good h.va.good.dom; have hx := hN.lt; obtain ⟨ho, u, hu⟩ := visit_order g.table hx (f := d.length + 1) (by omega); have hlen : (tableJ d a b).length = (visitD (rootJ d a b).1.1 (d.length + 1) [] (rootJ d a b).2).length := by unfold tableJ fromD; rw [List.length_map]
 have hle : (visitD (rootJ d a b).1.1 (d.length + 1) [] (rootJ d a b).2).length <= (rootJ d a b).1.1.length := by
  have := List.Nodup.length_le_of_subset ho.nodup (l₂ := List.range (rootJ d a b).1.1.length) (fun y hy => List.mem_range.2 (ho.inside y hy))
  rwa [List.length_range] at this
 have hpos : 0 < (tableJ d a b).length := by rw [hlen, hu]; simp
 have gf := from_good g ho; have hV : ValidG d (tableJ d a b) := ⟨h.va.dom, hpos, by omega, gf.table, gf.nodup, from_again g hx (by omega)⟩; refine ⟨hV, fun c fc => ?_⟩; rw [<- hN.means c fc]; rw [read_one hV.good gf _ 0 hpos (Nat.le_refl _) c fc]
 show readT _ ((visitD (rootJ d a b).1.1 (d.length + 1) [] (rootJ d a b).2).getD 0 0) c = _
 rw [hu]
 rfl
end
section
variable {d : List Fa}
theorem val_tests {c c' : Nat -> Int} : ∀ (N : Nat) (f : Fo), f.size <= N -> WfF d f -> (∀ t ∈ testsF f, cmpB (c (idxD d t.1).toNat) t.2.1 t.2.2 = cmpB (c' (idxD d t.1).toNat) t.2.1 t.2.2) -> valC d c f = valC d c' f := by
 intro N
 induction N with
 | zero => intro f h; have := f.size_pos; omega
 | succ N ih =>
  intro f hN hw ht; obtain ⟨op, s, m, n, ks⟩ := f; rw [WfF] at hw; rcases hw with ⟨h1, _, _, _, rfl⟩ | ⟨rfl, _, h3, _, _, rfl⟩ | ⟨h1, _, _, _, hwl⟩
  ·rw [valC, valC, if_neg (by omega), if_neg (by omega), if_neg (by omega), if_neg (by omega), if_neg (by omega), if_neg (by omega), if_neg (by omega), if_neg (by omega)]
  ·have := ht (s, m, n) (by rw [testsF]; simp)
   rw [valC, valC, if_pos rfl, if_pos rfl]; exact this
  ·have hk : valCL d c ks = valCL d c' ks := by
    rw [valCL_eq, valCL_eq]; refine List.map_congr_left fun k hk => ih k ?_ ((WfL_iff d ks).1 hwl k hk) (fun t htt => ht t ?_)
    ·obtain ⟨j, hj, rfl⟩ := List.getElem_of_mem hk
     have := Fo.size_get ks j hj; rw [Fo.size] at hN; omega
    ·rw [testsF]
     exact List.mem_append.2 (.inr ((testsL_mem ks t).2 ⟨k, hk, htt⟩))
   rw [valC, valC, hk, if_neg (show ¬ op = 3 by omega), if_neg (show ¬ op = 3 by omega)]
theorem test_fact : ∀ (N : Nat) (f : Fo), f.size <= N -> WfF d f -> ∀ t ∈ testsF f, ∃ k : Nat, idxD d t.1 = k /\ k < d.length := by
 intro N
 induction N with
 | zero => intro f h; have := f.size_pos; omega
 | succ N ih =>
  intro f hN hw t ht; obtain ⟨op, s, m, n, ks⟩ := f; rw [WfF] at hw; rw [testsF, List.mem_append, testsL_mem] at ht; rcases hw with ⟨h1, _, _, _, rfl⟩ | ⟨rfl, _, _, _, h4, rfl⟩ | ⟨h1, _, _, _, hwl⟩
  ·rw [if_neg (by omega)] at ht
   simp at ht
  ·simp at ht
   subst ht; exact h4
  ·rw [if_neg (by omega)] at ht
   simp only [List.not_mem_nil, false_or] at ht; obtain ⟨k, hk, ht⟩ := ht; refine ih k ?_ ((WfL_iff d ks).1 hwl k hk) t ht; obtain ⟨j, hj, rfl⟩ := List.getElem_of_mem hk; have := Fo.size_get ks j hj; rw [Fo.size] at hN; omega
theorem next_sep {h : Int} : ∀ (l : List Int) (b v u c : Int), chainI h b l -> c ∈ l -> v < c -> c <= u -> nextI l v < nextI l u
 | a :: l, b, v, u, c, hc, hm, h1, h2 => by
  have hac : a <= c := by
   rcases List.mem_cons.1 hm with rfl | hm
   ·exact Int.le_refl _
   ·have := chain_mem l a hc.2.2 c hm
    omega
  rw [nextI_ge (show a <= u by omega)]; rcases Int.lt_or_le v a with q | q
  ·rw [nextI_lt q]; omega
  ·rw [nextI_ge q]
   rcases List.mem_cons.1 hm with rfl | hm
   ·omega
   ·have := next_sep l a v u c hc.2.2 hm h1 h2
    omega
def ssF (d : List Fa) (f : Fo) (i : Nat) : List Int := (stD d i f).tail
theorem ssF_eq (hd : DomOk d) (f : Fo) {i : Nat} (hi : i < d.length) : stD d i f = flo d i :: ssF d f i := by
 obtain ⟨ss, e, _⟩ := starts_law (fnm d i) (hd.lohi i hi).2.1 f; unfold ssF; unfold stD; rw [e]; rfl
theorem ssF_prod (hd : DomOk d) (f : Fo) : ∀ n, n <= d.length -> prodF (nS (ssF d f)) n = prodF (stN d f) n
 | 0, _ => rfl
 | n + 1, h => by
  rw [prodF, prodF, ssF_prod hd f n (by omega)]; congr 1
  unfold stN; rw [ssF_eq hd f (by omega)]
  rfl
theorem cell_fo (hd : DomOk d) {f : Fo} (hw : WfF d f) : CellF d.length (flo d) (fhi d) (ssF d f) (fun c => valC d c f) := by
 have hst : ∀ i, i < d.length -> chainI (fhi d i) (flo d i) (ssF d f i) /\ ∀ x, x ∈ flo d i :: ssF d f i ↔ (flo d i <= x /\ x <= fhi d i) /\ (x = flo d i \/ x ∈ numsF (fnm d i) f) := fun i hi => by
  obtain ⟨ss, e1, e2, e3⟩ := starts_law (fnm d i) (hd.lohi i hi).2.1 f
  have e : ssF d f i = ss := by
   have := ssF_eq hd f hi; unfold stD at this; rw [e1] at this; exact (List.cons.inj this).2.symm
  rw [e]; exact ⟨e2, e3⟩
 refine ⟨fun i hi => (hst i hi).1, fun c c' fc fc' h => ?_⟩; refine val_tests f.size f (Nat.le_refl _) hw fun t ht => ?_
 obtain ⟨k, hk, hkd⟩ := test_fact f.size f (Nat.le_refl _) hw t ht; rw [hk, Int.toNat_natCast]; have hnm := idx_name hk hkd; obtain ⟨hch, hmem⟩ := hst k hkd
 have key : ∀ v u : Int, flo d k <= v -> u <= fhi d k -> v <= u -> nextI (ssF d f k) v = nextI (ssF d f k) u -> cmpB v t.2.1 t.2.2 = cmpB u t.2.1 t.2.2 := by
  intro v u h1 h2 h3 h4
  have hno : ∀ n, n = t.2.2 \/ n = t.2.2 + 1 -> ¬ (v < n /\ n <= u) := by
   intro n hn ⟨q1, q2⟩; have hin : n ∈ flo d k :: ssF d f k := (hmem n).2 ⟨⟨by omega, by omega⟩, .inr ((nums_mem _ f n).2 ⟨t, ht, hnm.symm, hn⟩)⟩; rcases List.mem_cons.1 hin with rfl | hin
   ·omega
   ·have := next_sep _ _ v u n hch hin q1 q2
    omega
  exact cmp_between (hno _ (.inl rfl)) (hno _ (.inr rfl)) h3
 rcases Int.le_total (c k) (c' k) with q | q
 ·exact key _ _ (fc k hkd).1 (fc' k hkd).2 q (h k hkd)
 ·exact (key _ _ (fc' k hkd).1 (fc k hkd).2 q (h k hkd).symm).symm
theorem CellF.not {nf : Nat} {lo hi : Nat -> Int} {ss : Nat -> List Int} {F : (Nat -> Int) -> Bool} (h : CellF nf lo hi ss F) : CellF nf lo hi ss (fun c => !F c) := ⟨h.chain, fun c c' fc fc' e => by rw [h.same c c' fc fc' e]⟩
theorem cell_true (nf : Nat) (lo hi : Nat -> Int) (b : Bool) : CellF nf lo hi (fun _ => []) (fun _ => b) := ⟨fun _ _ => trivial, fun _ _ _ _ _ => rfl⟩
structure DgF (d : List Fa) (t : List Dn) (F : (Nat -> Int) -> Bool) : Prop where
 valid : ValidG d t
 means : ∀ c, fitsC d.length (flo d) (fhi d) c -> readG d t 0 c = F c
 cells : ∃ ss, CellF d.length (flo d) (fhi d) ss F /\ prodF (nS ss) d.length <= 400
structure SmallF (d : List Fa) (f : Fo) : Prop where
 small : smallB f d = true
 dom : validD d = true
 check : checkF f d (fun _ => false) = 0
theorem SmallF.dg {f : Fo} (h : SmallF d f) : DgF d (tableB d f) (fun c => valC d c f) := by
 have hb := built_small h.small h.dom h.check; refine ⟨built_valid h.dom (wf_check h.check) hb, fun c fc => built_means h.dom (wf_check h.check) hb fc, _, cell_fo (dom_ok h.dom) (wf_check h.check), ?_⟩; rw [ssF_prod (dom_ok h.dom) f _ (Nat.le_refl _)]; have hs := h.small; unfold smallB at hs; simp only [Bool.and_eq_true, decide_eq_true_eq] at hs; exact small_cells (dom_ok h.dom) (wf_check h.check) (n := 400) hs.2
theorem not_valid {t : List Dn} (h : ValidG d t) : ValidG d (notD t) /\ ∀ c, fitsC d.length (flo d) (fhi d) c -> readG d (notD t) 0 c = !readG d t 0 c := by
 have g := not_good h.good; have hl : (notD t).length = t.length := by unfold notD; rw [List.length_map]
 have hv : visitD (notD t) (d.length + 1) [] 0 = visitD t (d.length + 1) [] 0 := visit_kids (not_kids t) _ _ _
 have hV : ValidG d (notD t) := by
  refine ⟨h.dom, by rw [hl]; exact h.pos, by rw [hl]; exact h.few, g.table, g.nodup, ?_⟩; rw [hv]; have hin := (visit_order h.good.table h.pos (f := d.length + 1) (by omega)).1; have ha := h.again; revert ha hin; generalize visitD t (d.length + 1) [] 0 = o; intro hin ha
  have e : fromD (notD t) o = (fromD t o).map notN := by
   unfold fromD; rw [List.map_map]; refine List.map_congr_left fun k hk => ?_
   rw [notD_get (hin.inside k hk)]
   show (⟨(notN (t.getD k default)).fact, (notN (t.getD k default)).cuts, _, (notN (t.getD k default)).leaf⟩ : Dn) = notN ⟨_, _, _, _⟩
   unfold notN; simp [List.map_eq_nil_iff]
  rw [e, ha]
  rfl
 refine ⟨hV, fun c fc => read_one hV.good g _ 0 hV.pos (Nat.le_refl _) c fc⟩
theorem DgF.not {t : List Dn} {F : (Nat -> Int) -> Bool} (h : DgF d t F) : DgF d (notD t) (fun c => !F c) := by
 obtain ⟨h1, h2⟩ := not_valid h.valid; obtain ⟨ss, h3, h4⟩ := h.cells; exact ⟨h1, fun c fc => by rw [h2 c fc, h.means c fc], ss, h3.not, h4⟩
theorem DgF.andB {t u : List Dn} {F G : (Nat -> Int) -> Bool} (h : DgF d t F) (k : DgF d u G) : AndB d t u := by
 obtain ⟨ss, h3, h4⟩ := h.cells; obtain ⟨ss', k3, k4⟩ := k.cells; exact andB_cells h.valid k.valid h3 k3 h4 k4 h.means k.means
theorem DgF.both {t u : List Dn} {F G : (Nat -> Int) -> Bool} (h : DgF d t F) (k : DgF d u G) : ValidG d (tableJ d t u) /\ ∀ c, fitsC d.length (flo d) (fhi d) c -> readG d (tableJ d t u) 0 c = (F c && G c) := by
 obtain ⟨h1, h2⟩ := and_valid (h.andB k); exact ⟨h1, fun c fc => by rw [h2 c fc, h.means c fc, k.means c fc]⟩
def leafT (b : Bool) : List Dn := [⟨0, [], [], b⟩]
theorem leaf_valid (hd : validD d = true) (b : Bool) : ValidG d (leafT b) /\ ∀ c, readG d (leafT b) 0 c = b := by
 refine ⟨⟨hd, Nat.one_pos, (by show 1 <= 20000; decide), fun k hk => ?_, by unfold leafT; simp, ?_⟩, fun c => ?_⟩
 ·have : k = 0 := by unfold leafT at hk; simp at hk; exact hk
  subst this; exact ⟨fun _ => ⟨rfl, rfl⟩, fun h => absurd rfl h⟩
 ·unfold visitD
  simp [leafT, fromD]
 ·unfold readG readW
  exact if_pos rfl
theorem leaf_dg (hd : validD d = true) (b : Bool) : DgF d (leafT b) (fun _ => b) := by
 obtain ⟨h1, h2⟩ := leaf_valid hd b; refine ⟨h1, fun c _ => h2 c, _, cell_true _ _ _ b, ?_⟩
 have : ∀ n, prodF (nS (fun _ => ([] : List Int))) n = 1 := fun n => by
  induction n with
  | zero => rfl
  | succ n ih => rw [prodF, ih]; rfl
 rw [this]; decide
end
end Go.Proofs.YtejbgoigkefnfaaGreatDoor
