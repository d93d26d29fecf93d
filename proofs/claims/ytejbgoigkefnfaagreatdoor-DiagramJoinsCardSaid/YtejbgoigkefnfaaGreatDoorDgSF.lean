/- The start of a law over two formulas and a domain; the formula that joins both. No conditions. -/
import Derived.Test.YtejbgoigkefnfaaGreatDoorDgAnP
import Derived.Test.YtejbgoigkefnfaaGreatDoorDgLeastL
import Derived.Test.YtejbgoigkefnfaaGreatDoorDgLawP
import Derived.Test.YtejbgoigkefnfaaGreatDoorDgAW
namespace Go.Proofs.YtejbgoigkefnfaaGreatDoor
section
variable {d : List Fa}
theorem notN_two (n : Dn) : notN (notN n) = n := by
 obtain ⟨f, c, k, b⟩ := n; unfold notN; by_cases h : k = []
 ·subst h; simp
 ·simp [h]
theorem notD_two (t : List Dn) : notD (notD t) = t := by
 unfold notD; rw [List.map_map]; have : notN ∘ notN = id := funext notN_two; rw [this, List.map_id]
theorem dg_same {t u : List Dn} {F G : (Nat -> Int) -> Bool} (ht : ValidG d t) (hu : ValidG d u) (h1 : ∀ c, fitsC d.length (flo d) (fhi d) c -> readG d t 0 c = F c) (h2 : ∀ c, fitsC d.length (flo d) (fhi d) c -> readG d u 0 c = G c) (e : ∀ c, fitsC d.length (flo d) (fhi d) c -> F c = G c) : t = u :=
 valid_same ht hu fun c fc => by rw [h1 c fc, h2 c fc, e c fc]
structure FormLaw (d : List Fa) (a : List Dn) : Prop where
 valid : validG d a = true
 not : validG d (notD a) = true
 self : tableJ d a a = a
 still : tableJ d (leafT true) a = a
 none : tableJ d a (notD a) = leafT false
 bself : AndB d a a
 bstill : AndB d (leafT true) a
 bnone : AndB d a (notD a)
theorem form_law {f : Fo} (h : SmallF d f) : FormLaw d (tableB d f) := by
 have hg := h.dg; have hn := hg.not; have hl := leaf_dg h.dom true; have hl0 := leaf_dg h.dom false; obtain ⟨s1, s2⟩ := hg.both hg; obtain ⟨t1, t2⟩ := hl.both hg; obtain ⟨n1, n2⟩ := hg.both hn; refine ⟨valid_iff.2 hg.valid, valid_iff.2 hn.valid, dg_same s1 hg.valid s2 hg.means fun c _ => by simp, dg_same t1 hg.valid t2 hg.means fun c _ => by simp, dg_same n1 hl0.valid n2 hl0.means fun c _ => by simp, hg.andB hg, hl.andB hg, hg.andB hn⟩
theorem walk_dg {t : List Dn} {F : (Nat -> Int) -> Bool} (hv : ValidG d t) (hm : ∀ c, fitsC d.length (flo d) (fhi d) c -> readG d t 0 c = F c) {c : List Int} (hc : fitsD d c = true) : walkG t c t.length 0 = F (fun i => c.getD i 0) := by
 obtain ⟨_, h1, h2⟩ := fits_iff.1 hc; rw [walk_same hv.lens, walk_valid hv h1 h2, hm _ h2]
def bothF (f h : Fo) : Fo := .mk 6 nilB 0 0 [f, h]
theorem val_both (c : Nat -> Int) (f h : Fo) : valC d c (bothF f h) = (valC d c f && valC d c h) := by
 unfold bothF; rw [valC, if_neg (by decide), if_neg (by decide), if_pos rfl, valCL_eq]
 simp
structure JoinLaw (d : List Fa) (f h : Fo) : Prop where
 band : AndB d (tableB d f) (tableB d h)
 bdna : AndB d (tableB d h) (tableB d f)
 same : tableJ d (tableB d f) (tableB d h) = tableJ d (tableB d h) (tableB d f)
 both : smallB (bothF f h) d = true -> checkF (bothF f h) d (fun _ => false) = 0 -> (buildD d (bothF f h)).2 = 0 -> (buildD d (bothF f h)).1 = tableJ d (tableB d f) (tableB d h)
 okay : checkF (bothF f h) d (fun _ => false) = 0 -> (buildD d (bothF f h)).2 = 0 \/ (buildD d (bothF f h)).2 = 2
 opp : ∀ c, fitsD d c = true -> walkG (notD (tableB d f)) c (notD (tableB d f)).length 0 = !walkG (tableB d f) c (tableB d f).length 0
 holds : ∀ c, fitsD d c = true -> walkG (tableJ d (tableB d f) (tableB d h)) c (tableJ d (tableB d f) (tableB d h)).length 0 = (walkG (tableB d f) c (tableB d f).length 0 && walkG (tableB d h) c (tableB d h).length 0)
theorem join_law {f h : Fo} (hf : SmallF d f) (hh : SmallF d h) : JoinLaw d f h := by
 have gf := hf.dg; have gh := hh.dg; obtain ⟨s1, s2⟩ := gf.both gh; obtain ⟨t1, t2⟩ := gh.both gf; refine ⟨gf.andB gh, gh.andB gf, dg_same s1 t1 s2 t2 fun c _ => Bool.and_comm _ _, fun hs hk hz => ?_, fun hk => ?_, fun c fc => ?_, fun c fc => ?_⟩
 ·have hb : SmallF d (bothF f h) := ⟨hs, hf.dom, hk⟩
  have gb := hb.dg; rw [(build_zero hz).2.2]; exact dg_same gb.valid s1 gb.means s2 fun c _ => val_both c f h
 ·unfold buildD
  rw [if_neg (by rw [hf.dom, hk]; simp)]
  split
  ·right; rfl
  ·left; rfl
 ·rw [walk_dg gf.not.valid gf.not.means fc, walk_dg gf.valid gf.means fc]
 ·rw [walk_dg s1 s2 fc, walk_dg gf.valid gf.means fc, walk_dg gh.valid gh.means fc]
structure JoinL (d : List Fa) (f h : Fo) (t u x : List Dn) : Prop where
 both : smallB (bothF f h) d = true -> checkF (bothF f h) d (fun _ => false) = 0 -> (buildD d (bothF f h)).2 = 0 -> (buildD d (bothF f h)).1 = x
 okay : checkF (bothF f h) d (fun _ => false) = 0 -> (buildD d (bothF f h)).2 = 0 \/ (buildD d (bothF f h)).2 = 2
 opp : ∀ c, fitsD d c = true -> walkG (notD t) c (notD t).length 0 = !walkG t c t.length 0
 holds : ∀ c, fitsD d c = true -> walkG x c x.length 0 = (walkG t c t.length 0 && walkG u c u.length 0)
theorem join_names {f h : Fo} (hf : SmallF d f) (hh : SmallF d h) : JoinL d f h (tableB d f) (tableB d h) (tableJ d (tableB d f) (tableB d h)) :=
 have q := join_law hf hh
 ⟨q.both, q.okay, q.opp, q.holds⟩
theorem sep_law {f h : Fo} (hf : SmallF d f) (hh : SmallF d h) : AndB d (tableB d f) (notD (tableB d h)) /\ (∀ n ∈ tableJ d (tableB d f) (notD (tableB d h)), Dn64 n) /\
  ∀ p, leastG d (tableJ d (tableB d f) (notD (tableB d h))) = some p -> fitsD d p = true /\ holdsF f d p [] = true /\ holdsF h d p [] = false := by
 have gf := hf.dg; have gh := hh.dg.not; obtain ⟨s1, s2⟩ := gf.both gh; refine ⟨gf.andB gh, valid_64 s1, fun p hp => ?_⟩; obtain ⟨_, p1, p2, p3, _⟩ := least_some s1 hp; have hfp : fitsD d p = true := fits_iff.2 ⟨hf.dom, p1, p2⟩; rw [s2 _ p2, Bool.and_eq_true] at p3; rw [holds_case hf.check hfp, holds_case hh.check hfp]; exact ⟨hfp, p3.1, by simpa using p3.2⟩
theorem sep_some {f h : Fo} (hf : SmallF d f) (hh : SmallF d h) (hne : tableB d f ≠ tableB d h) : (leastG d (tableJ d (tableB d f) (notD (tableB d h)))).isSome = true \/ (leastG d (tableJ d (tableB d h) (notD (tableB d f)))).isSome = true := by
 have gf := hf.dg; have gh := hh.dg; obtain ⟨s1, s2⟩ := gf.both gh.not; obtain ⟨t1, t2⟩ := gh.both gf.not; cases h1 : leastG d (tableJ d (tableB d f) (notD (tableB d h))) with
 | some p => left; rfl
 | none =>
  cases h2 : leastG d (tableJ d (tableB d h) (notD (tableB d f))) with
  | some p => right; rfl
  | none =>
   exfalso
   refine hne (dg_same gf.valid gh.valid gf.means gh.means fun c fc => ?_); have q1 := least_none s1 h1 (c := c); have q2 := least_none t1 h2 (c := c); rw [s2 c fc] at q1; rw [t2 c fc] at q2; cases e1 : valC d c f <;> cases e2 : valC d c h <;> simp_all
theorem same_holds {f h : Fo} (hf : SmallF d f) (hh : SmallF d h) (e : tableB d f = tableB d h) {c : List Int} (fc : fitsD d c = true) : holdsF f d c [] = holdsF h d c [] := by
 obtain ⟨_, _, h2⟩ := fits_iff.1 fc; rw [holds_case hf.check fc, holds_case hh.check fc, <- hf.dg.means _ h2, <- hh.dg.means _ h2, e]
theorem pair_small {f h : Fo} (hp : pairB f h d = true) : SmallF d f /\ SmallF d h := by
 unfold pairB at hp; simp only [Bool.and_eq_true, decide_eq_true_eq] at hp; obtain ⟨⟨⟨h1, h2⟩, h3⟩, h4⟩ := hp; exact ⟨⟨h1, (build_zero h3).1, (build_zero h3).2.1⟩, ⟨h2, (build_zero h4).1, (build_zero h4).2.1⟩⟩
end
section
open Go.RowKit
theorem lw_start2 {w : World} {f h : Fo} {d : List Fa} {a a' ad : Option Addr} {c c' cd : Nat} (hf : f.In w w.heap.size (.agg #[.int .i64 f.op, .string f.name, .int .i64 f.cmp, .int .i64 f.n, .slice a f.kids.length c])) (hh : h.In w w.heap.size (.agg #[.int .i64 h.op, .string h.name, .int .i64 h.cmp, .int .i64 h.n, .slice a' h.kids.length c'])) (hd : DomIn w w.heap.size d (.agg #[.slice ad d.length cd])) (hT : TabH w.heap.size w) :
  Hid (LwS w (((w.alloc (.cells #[.int .i64 f.op, .string f.name, .int .i64 f.cmp, .int .i64 f.n, .slice a f.kids.length c] 24)).alloc (.cells #[.int .i64 h.op, .string h.name, .int .i64 h.cmp, .int .i64 h.n, .slice a' h.kids.length c'] 24)).alloc (.cells #[.slice ad d.length cd] 27))) /\ Hid (LwF (((w.alloc (.cells #[.int .i64 f.op, .string f.name, .int .i64 f.cmp, .int .i64 f.n, .slice a f.kids.length c] 24)).alloc (.cells #[.int .i64 h.op, .string h.name, .int .i64 h.cmp, .int .i64 h.n, .slice a' h.kids.length c'] 24)).alloc (.cells #[.slice ad d.length cd] 27)) w.heap.size f a c) /\ Hid (LwF (((w.alloc (.cells #[.int .i64 f.op, .string f.name, .int .i64 f.cmp, .int .i64 f.n, .slice a f.kids.length c] 24)).alloc (.cells #[.int .i64 h.op, .string h.name, .int .i64 h.cmp, .int .i64 h.n, .slice a' h.kids.length c'] 24)).alloc (.cells #[.slice ad d.length cd] 27)) (w.heap.size + 1) h a' c') /\ Hid (LwD (((w.alloc (.cells #[.int .i64 f.op, .string f.name, .int .i64 f.cmp, .int .i64 f.n, .slice a f.kids.length c] 24)).alloc (.cells #[.int .i64 h.op, .string h.name, .int .i64 h.cmp, .int .i64 h.n, .slice a' h.kids.length c'] 24)).alloc (.cells #[.slice ad d.length cd] 27)) (w.heap.size + 1 + 1) d ad cd) /\ Hid (Below w.heap.size w (((w.alloc (.cells #[.int .i64 f.op, .string f.name, .int .i64 f.cmp, .int .i64 f.n, .slice a f.kids.length c] 24)).alloc (.cells #[.int .i64 h.op, .string h.name, .int .i64 h.cmp, .int .i64 h.n, .slice a' h.kids.length c'] 24)).alloc (.cells #[.slice ad d.length cd] 27))) := by
 have hb : Below w.heap.size w (((w.alloc (.cells #[.int .i64 f.op, .string f.name, .int .i64 f.cmp, .int .i64 f.n, .slice a f.kids.length c] 24)).alloc (.cells #[.int .i64 h.op, .string h.name, .int .i64 h.cmp, .int .i64 h.n, .slice a' h.kids.length c'] 24)).alloc (.cells #[.slice ad d.length cd] 27)) := (((Below.refl _ _).alloc (Nat.le_refl _) _).alloc (by simp) _).alloc (by simp; omega) _; have k0 : Blk (((w.alloc (.cells #[.int .i64 f.op, .string f.name, .int .i64 f.cmp, .int .i64 f.n, .slice a f.kids.length c] 24)).alloc (.cells #[.int .i64 h.op, .string h.name, .int .i64 h.cmp, .int .i64 h.n, .slice a' h.kids.length c'] 24)).alloc (.cells #[.slice ad d.length cd] 27)) w.heap.size 24 #[.int .i64 f.op, .string f.name, .int .i64 f.cmp, .int .i64 f.n, .slice a f.kids.length c] := ((Blk.new w 24 #[.int .i64 f.op, .string f.name, .int .i64 f.cmp, .int .i64 f.n, .slice a f.kids.length c]).alloc _).alloc _
 have k1 : Blk (((w.alloc (.cells #[.int .i64 f.op, .string f.name, .int .i64 f.cmp, .int .i64 f.n, .slice a f.kids.length c] 24)).alloc (.cells #[.int .i64 h.op, .string h.name, .int .i64 h.cmp, .int .i64 h.n, .slice a' h.kids.length c'] 24)).alloc (.cells #[.slice ad d.length cd] 27)) (w.heap.size + 1) 24 #[.int .i64 h.op, .string h.name, .int .i64 h.cmp, .int .i64 h.n, .slice a' h.kids.length c'] := by
  have q := (Blk.new (w.alloc (.cells #[.int .i64 f.op, .string f.name, .int .i64 f.cmp, .int .i64 f.n, .slice a f.kids.length c] 24)) 24 #[.int .i64 h.op, .string h.name, .int .i64 h.cmp, .int .i64 h.n, .slice a' h.kids.length c']).alloc (.cells #[.slice ad d.length cd] 27); rw [World.size_alloc] at q; exact q
 have k2 : Blk (((w.alloc (.cells #[.int .i64 f.op, .string f.name, .int .i64 f.cmp, .int .i64 f.n, .slice a f.kids.length c] 24)).alloc (.cells #[.int .i64 h.op, .string h.name, .int .i64 h.cmp, .int .i64 h.n, .slice a' h.kids.length c'] 24)).alloc (.cells #[.slice ad d.length cd] 27)) (w.heap.size + 1 + 1) 27 #[.slice ad d.length cd] := by
  have q := Blk.new ((w.alloc (.cells #[.int .i64 f.op, .string f.name, .int .i64 f.cmp, .int .i64 f.n, .slice a f.kids.length c] 24)).alloc (.cells #[.int .i64 h.op, .string h.name, .int .i64 h.cmp, .int .i64 h.n, .slice a' h.kids.length c'] 24)) 27 #[.slice ad d.length cd]; rw [World.size_alloc, World.size_alloc] at q; exact q
 exact ⟨(lws_new hT).step hb, ⟨k0, (Fo.In.below hb _ _ hf).mono hb.size⟩, ⟨k1, (Fo.In.below hb _ _ hh).mono hb.size⟩, ⟨k2, (hd.below hb).mono hb.size⟩, hb⟩
theorem both_in {W : World} {B R : Nat} {f h : Fo} {a a' : Option Addr} {c c' : Nat} (hr : Blk W R 24 #[.int .i64 f.op, .string f.name, .int .i64 f.cmp, .int .i64 f.n, .slice a f.kids.length c, .int .i64 h.op, .string h.name, .int .i64 h.cmp, .int .i64 h.n, .slice a' h.kids.length c']) (hR : R < B) (hf : f.In W B (.agg #[.int .i64 f.op, .string f.name, .int .i64 f.cmp, .int .i64 f.n, .slice a f.kids.length c])) (hh : h.In W B (.agg #[.int .i64 h.op, .string h.name, .int .i64 h.cmp, .int .i64 h.n, .slice a' h.kids.length c'])) :
  (bothF f h).In W B (.agg #[.int .i64 6, .string (⟨#[]⟩ : ByteArray), .int .i64 0, .int .i64 0, .slice (some ⟨R, 0, none⟩) 2 2]) := by
 refine ⟨some ⟨R, 0, none⟩, 2, rfl, ⟨by decide, by decide⟩, ⟨by decide, by decide⟩, ⟨by decide, by decide⟩, by decide, Nat.le_refl _, by decide, fun _ => ⟨R, 0, rfl, hR, ⟨_, _, _, _, _, hr.cell 0, hr.cell 1, hr.cell 2, hr.cell 3, hr.cell 4, hf⟩, ⟨_, _, _, _, _, hr.cell 5, hr.cell 6, hr.cell 7, hr.cell 8, hr.cell 9, hh⟩, trivial⟩⟩
theorem lw_bothF {W : World} {b b' : Nat} {f h : Fo} {a a' : Option Addr} {c c' : Nat} (HF : Hid (LwF W b f a c)) (HH : Hid (LwF W b' h a' c')) :
  Hid (LwF ((W.alloc (.cells #[.int .i64 f.op, .string f.name, .int .i64 f.cmp, .int .i64 f.n, .slice a f.kids.length c, .int .i64 h.op, .string h.name, .int .i64 h.cmp, .int .i64 h.n, .slice a' h.kids.length c'] 24)).alloc (.cells #[.int .i64 6, .string (⟨#[]⟩ : ByteArray), .int .i64 0, .int .i64 0, .slice (some ⟨W.heap.size, 0, none⟩) 2 2] 24)) (W.heap.size + 1) (bothF f h) (some ⟨W.heap.size, 0, none⟩) 2) := by
 have hb : Below W.heap.size W ((W.alloc (.cells #[.int .i64 f.op, .string f.name, .int .i64 f.cmp, .int .i64 f.n, .slice a f.kids.length c, .int .i64 h.op, .string h.name, .int .i64 h.cmp, .int .i64 h.n, .slice a' h.kids.length c'] 24)).alloc (.cells #[.int .i64 6, .string (⟨#[]⟩ : ByteArray), .int .i64 0, .int .i64 0, .slice (some ⟨W.heap.size, 0, none⟩) 2 2] 24)) := ((Below.refl _ _).alloc (Nat.le_refl _) _).alloc (by simp) _; refine ⟨(hd_two W _ _ _).out, ?_⟩; exact both_in (hd_one W _ _ _).out (by simp; omega) ((Fo.In.below hb _ _ HF.out.fo).mono hb.size) ((Fo.In.below hb _ _ HH.out.fo).mono hb.size)
theorem lw_both {w0 W w : World} {ta tb u : List Dn} {d : List Fa} {b b' b'' : Nat} {aa ab ad : Option Addr} {ca cb cd : Nat} (HE : Hid (LwS w0 W)) (HA : Hid (DgV W b ta aa ca)) (HB : Hid (DgV W b' tb ab cb)) (HD : Hid (LwD W b'' d ad cd)) (h64 : ∀ n ∈ ta, Dn64 n) (h64' : ∀ n ∈ tb, Dn64 n) (hu : andX d ta tb = (u, 0)) (hW : Hid (Below W.heap.size W w)) :
  Calls Tryz.prog 24 #[.agg #[.slice aa ta.length ca], .agg #[.slice ab tb.length cb], .agg #[.slice ad d.length cd]] w fun e w' => ∃ (x : Option Addr) (k : Nat), e = .returned (.tuple #[.agg #[.slice x u.length k], .int .i64 0]) /\ Hid (DgIn w' w'.heap.size u (.agg #[.slice x u.length k])) /\ Hid (Below W.heap.size W w') := by
 have q := lw_andX (w := w) HE HA HB HD h64 h64' hW; rw [hu] at q; exact q
end
end Go.Proofs.YtejbgoigkefnfaaGreatDoor
