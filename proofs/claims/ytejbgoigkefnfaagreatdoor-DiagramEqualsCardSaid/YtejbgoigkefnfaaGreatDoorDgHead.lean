/- The walk of law11's head. No conditions. -/
import Derived.Test.YtejbgoigkefnfaaGreatDoorDgHD
namespace Go.Proofs.YtejbgoigkefnfaaGreatDoor
open Go.RowKit
theorem hd_then {W wc w4 : World} (h : Hid (Below W.heap.size W wc)) (hb : Below wc.heap.size wc w4) : Hid (Below W.heap.size W w4) := h.out.trans (hb.mono h.out.size)
theorem hd_alloc {W wc : World} {o : Obj} (h : Hid (Below W.heap.size W wc)) : Hid (Below W.heap.size W (wc.alloc o)) := h.out.alloc h.out.size _
theorem hd_new {wc w4 : World} {cs : Array Value} {t : TypeId} (hb : Below (wc.alloc (.cells cs t)).heap.size (wc.alloc (.cells cs t)) w4) : Hid (Blk w4 wc.heap.size t cs) := (Blk.new wc t cs).below hb
theorem hd_newd {wc w4 : World} {cs : Array Value} {t : TypeId} (hb : Below ((wc.alloc (.cells cs t)).drew).heap.size ((wc.alloc (.cells cs t)).drew) w4) : Hid (Blk w4 wc.heap.size t cs) := (show Blk ((wc.alloc (.cells cs t)).drew) wc.heap.size t cs from Blk.new wc t cs).below hb
theorem hd_one (w : World) (o : Obj) (t : TypeId) (cs : Array Value) : Hid (Blk ((w.alloc (.cells cs t)).alloc o) w.heap.size t cs) := (Blk.new w t cs).alloc o
theorem hd_two (w : World) (o : Obj) (t : TypeId) (cs : Array Value) : Hid (Blk ((w.alloc o).alloc (.cells cs t)) (w.heap.size + 1) t cs) := by
 have q := Blk.new (w.alloc o) t cs; rw [World.size_alloc] at q; exact q
theorem hd_ne {w : World} {b : Nat} {t : TypeId} {cs : Array Value} (h : Hid (Blk w b t cs)) : some w.heap.size ≠ some b := fun e => by cases e; exact Nat.lt_irrefl _ h.out.lt
theorem hd_le {W w : World} {o : Obj} (h : Hid (Below W.heap.size W w)) : W.heap.size <= (w.alloc o).heap.size := by have := h.out.size; simp; omega
theorem hd_ge (n : Nat) : ∀ k, some n = some k -> n <= k := fun k e => by cases e; exact Nat.le_refl _
theorem leaf_in (w : World) (B : Nat) {nm : ByteArray} {c n : Int} (h1 : W64 c) (h2 : W64 n) (h3 : nm.size <= maxLen) : (Fo.mk 3 nm c n []).In w B (.agg #[.int .i64 3, .string nm, .int .i64 c, .int .i64 n, .slice none 0 0]) :=
 ⟨none, 0, rfl, ⟨by decide, by decide⟩, h1, h2, h3, Nat.le_refl _, Nat.zero_le _, fun h => absurd rfl h⟩
theorem two_in {w : World} {B rb : Nat} {op : Int} {n1 n2 : ByteArray} {c1 m1 c2 m2 : Int} (hr : Hid (Blk w rb 24 #[.int .i64 3, .string n1, .int .i64 c1, .int .i64 m1, .slice none 0 0, .int .i64 3, .string n2, .int .i64 c2, .int .i64 m2, .slice none 0 0])) (hB : rb < B)
  (h0 : W64 op) (h1 : W64 c1) (h2 : W64 m1) (h3 : n1.size <= maxLen) (h4 : W64 c2) (h5 : W64 m2) (h6 : n2.size <= maxLen) :
  (Fo.mk op nilB 0 0 [.mk 3 n1 c1 m1 [], .mk 3 n2 c2 m2 []]).In w B (.agg #[.int .i64 op, .string nilB, .int .i64 0, .int .i64 0, .slice (some ⟨rb, 0, none⟩) 2 2]) :=
 ⟨some ⟨rb, 0, none⟩, 2, rfl, h0, ⟨by decide, by decide⟩, ⟨by decide, by decide⟩, by decide, Nat.le_refl _, by decide, fun _ => ⟨rb, 0, rfl, hB,
  ⟨_, _, _, _, _, hr.out.cell 0, hr.out.cell 1, hr.out.cell 2, hr.out.cell 3, hr.out.cell 4, leaf_in w B h1 h2 h3⟩, ⟨_, _, _, _, _, hr.out.cell 5, hr.out.cell 6, hr.out.cell 7, hr.out.cell 8, hr.out.cell 9, leaf_in w B h4 h5 h6⟩, trivial⟩⟩
structure HdS (w0 W : World) (b1 db : Nat) : Prop where
 box : Blk W b1 27 #[.slice (some ⟨db, 0, none⟩) 2 2]
 dom : DomIn W W.heap.size dH (.agg #[.slice (some ⟨db, 0, none⟩) 2 2])
 tab : TabH W.heap.size W
 low : Below w0.heap.size w0 W
theorem HdS.step {w0 W W' : World} {b1 db : Nat} (h : HdS w0 W b1 db) (hb : Below W.heap.size W W') : HdS w0 W' b1 db :=
 ⟨h.box.below hb, (h.dom.below hb).mono hb.size, fun w' h' => h.tab w' (hb.trans (h'.mono hb.size)), h.low.trans (hb.mono h.low.size)⟩
structure DgV (W : World) (b : Nat) (t : List Dn) (a : Option Addr) (c : Nat) : Prop where
 box : Blk W b 34 #[.slice a t.length c]
 dg : DgIn W W.heap.size t (.agg #[.slice a t.length c])
theorem DgV.step {W W' : World} {b : Nat} {t : List Dn} {a : Option Addr} {c : Nat} (h : DgV W b t a c) (hb : Below W.heap.size W W') : DgV W' b t a c := ⟨h.box.below hb, (h.dg.below hb).mono hb.size⟩
theorem dgv_new {W : World} {t : List Dn} {a : Option Addr} {c : Nat} (h : Hid (DgIn W W.heap.size t (.agg #[.slice a t.length c]))) : Hid (DgV (W.alloc (.cells #[.slice a t.length c] 34)) W.heap.size t a c) :=
 ⟨Blk.new W _ _, (h.out.below ((Below.refl _ _).alloc (Nat.le_refl _) _)).mono (by simp)⟩
theorem dgv_set {W : World} {b : Nat} {t : List Dn} {a a0 : Option Addr} {n0 c0 c : Nat} (hb : Hid (Blk W b 34 #[.slice a0 n0 c0])) (h : Hid (DgIn W W.heap.size t (.agg #[.slice a t.length c]))) : Hid (DgV (W.setCell ⟨b, 0, none⟩ (.slice a t.length c)) b t a c) :=
 ⟨hb.out.set 0 _, by rw [World.size_setCell]; exact h.out.set hb.out _⟩
theorem hd_set {W w : World} {b : Nat} {v : Value} (h : Hid (Below W.heap.size W w)) (hb : Hid (W.heap.size <= b)) : Hid (Below W.heap.size W (w.setCell ⟨b, 0, none⟩ v)) := h.out.setCell (p := ⟨b, 0, none⟩) hb.out v
theorem hd_build {w0 W wc : World} {b1 db : Nat} (HE : Hid (HdS w0 W b1 db)) (hW : Hid (Below W.heap.size W wc)) {f : Fo} {t : List Dn} {er : Int} (hb : buildD dH f = (t, er)) (hs : f.size <= 3) {v : Value} (hf : f.In wc wc.heap.size v) :
  Calls Tryz.prog 12 #[v, .agg #[.slice (some ⟨db, 0, none⟩) 2 2]] wc fun e w' => ∃ (a : Option Addr) (c : Nat), e = .returned (.tuple #[.agg #[.slice a t.length c], .int .i64 er]) /\ Hid (DgIn w' w'.heap.size t (.agg #[.slice a t.length c])) /\ Hid (Below wc.heap.size wc w') := by
 have hE := HE.out.step hW.out; have q := build_any f dH v _ wc wc.heap.size (by omega) (Nat.le_refl _) hf hE.dom hE.tab (fun _ hc => built_dH hc hs); rw [hb] at q; refine q.mono ?_; rintro e w' ⟨g, rfl, ⟨u, rfl, h1⟩, h2⟩; obtain ⟨a, c, rfl, _⟩ := SlIn.shape h1; exact ⟨a, c, rfl, ⟨_, rfl, h1⟩, h2⟩
theorem hd_leaf {w0 W wc : World} {b1 db : Nat} (HE : Hid (HdS w0 W b1 db)) {nm : ByteArray} {c n : Int} {t : List Dn} {er : Int} (hb : buildD dH (.mk 3 nm c n []) = (t, er)) (h1 : W64 c) (h2 : W64 n) (h3 : nm.size <= maxLen) (hW : Hid (Below W.heap.size W wc)) {R : Ending -> World -> Prop}
  (hR : ∀ (a : Option Addr) (k : Nat) (w' : World), Hid (DgIn w' w'.heap.size t (.agg #[.slice a t.length k])) -> Hid (Below wc.heap.size wc w') -> R (.returned (.tuple #[.agg #[.slice a t.length k], .int .i64 er])) w') :
  Calls Tryz.prog 12 #[.agg #[.int .i64 3, .string nm, .int .i64 c, .int .i64 n, .slice none 0 0], .agg #[.slice (some ⟨db, 0, none⟩) 2 2]] wc R := by
 refine (hd_build HE hW hb (show (1 : Nat) <= 3 by decide) (leaf_in wc _ h1 h2 h3)).mono ?_; rintro e w' ⟨a, k, rfl, h4, h5⟩; exact hR a k w' h4 h5
theorem hd_pair {w0 W wc : World} {b1 db rb : Nat} (HE : Hid (HdS w0 W b1 db)) {t : List Dn} {er : Int} {op : Int} {n1 n2 : ByteArray} {c1 m1 c2 m2 : Int} (hb : buildD dH (.mk op nilB 0 0 [.mk 3 n1 c1 m1 [], .mk 3 n2 c2 m2 []]) = (t, er))
  (h0 : W64 op) (h1 : W64 c1) (h2 : W64 m1) (h3 : n1.size <= maxLen) (h4 : W64 c2) (h5 : W64 m2) (h6 : n2.size <= maxLen)
  (hr : Hid (Blk wc rb 24 #[.int .i64 3, .string n1, .int .i64 c1, .int .i64 m1, .slice none 0 0, .int .i64 3, .string n2, .int .i64 c2, .int .i64 m2, .slice none 0 0])) (hW : Hid (Below W.heap.size W wc)) {R : Ending -> World -> Prop}
  (hR : ∀ (a : Option Addr) (k : Nat) (w' : World), Hid (DgIn w' w'.heap.size t (.agg #[.slice a t.length k])) -> Hid (Below wc.heap.size wc w') -> R (.returned (.tuple #[.agg #[.slice a t.length k], .int .i64 er])) w') :
  Calls Tryz.prog 12 #[.agg #[.int .i64 op, .string nilB, .int .i64 0, .int .i64 0, .slice (some ⟨rb, 0, none⟩) 2 2], .agg #[.slice (some ⟨db, 0, none⟩) 2 2]] wc R := by
 refine (hd_build HE hW hb (show (3 : Nat) <= 3 by decide) (two_in hr hr.out.lt h0 h1 h2 h3 h4 h5 h6)).mono ?_; rintro e w' ⟨a, k, rfl, h7, h8⟩; exact hR a k w' h7 h8
theorem hd_newp {w w' : World} {o : Obj} {cs : Array Value} {t : TypeId} (hb : Hid (Below ((w.alloc o).alloc (.cells cs t)).heap.size ((w.alloc o).alloc (.cells cs t)) w')) : Hid (Blk w' (w.heap.size + 1) t cs) := (hd_two w o t cs).out.below hb.out
theorem hd_newq {w w' : World} {o : Obj} {cs : Array Value} {t : TypeId} (hb : Hid (Below ((w.alloc (.cells cs t)).alloc o).heap.size ((w.alloc (.cells cs t)).alloc o) w')) : Hid (Blk w' w.heap.size t cs) := (hd_one w o t cs).out.below hb.out
theorem hd_here (w : World) (t : TypeId) (cs : Array Value) : Hid (Blk (w.alloc (.cells cs t)) w.heap.size t cs) := Blk.new w t cs
theorem want64 : ∀ n ∈ wantT, Dn64 n := by
 intro n hn; simp only [wantT, List.mem_cons, List.not_mem_nil, or_false] at hn; rcases hn with rfl | rfl | rfl | rfl
 all_goals
  constructor
  all_goals first | (constructor <;> decide) | (simp; done) | (simp [W64]; done) | decide
theorem hd_least {w0 W : World} {b1 db b : Nat} {a : Option Addr} {c : Nat} (HE : Hid (HdS w0 W b1 db)) (HV : Hid (DgV W b wantT a c)) :
  Calls Tryz.prog 20 #[.agg #[.slice a wantT.length c], .agg #[.slice (some ⟨db, 0, none⟩) 2 2]] W fun e w' => ∃ (x : Option Addr) (k : Nat), e = .returned (.tuple #[.slice x 2 k, .bool true]) /\ Hid (IntsIn w' w'.heap.size [18, 1] (.slice x 2 k)) /\ Hid (Below W.heap.size W w') := by
 have q := leastG_any dH wantT _ _ W W.heap.size (Nat.le_refl _) HV.out.dg HE.out.dom want64 HE.out.tab; rw [want_least] at q; refine q.mono ?_; rintro e w' ⟨cv, rfl, h1, h2⟩; obtain ⟨x, k, rfl, _⟩ := SlIn.shape h1; exact ⟨x, k, rfl, h1, h2⟩
theorem hd_same {W w : World} {t : List Dn} {b b' : Nat} {a a' : Option Addr} {c c' : Nat} (h : Hid (DgV W b t a c)) (h' : Hid (DgV W b' t a' c')) (hb : Hid (Below W.heap.size W w)) :
  Calls Tryz.prog 27 #[.agg #[.slice a t.length c], .agg #[.slice a' t.length c']] w fun e w' => e = .returned (.bool true) /\ Hid (Below W.heap.size W w') := by
 refine (refSame_any t t _ _ w W.heap.size hb.out.size (h.out.dg.below hb.out) (h'.out.dg.below hb.out)).mono ?_; rintro e w' ⟨rfl, h2⟩; exact ⟨by simp, hd_then hb h2⟩
theorem hd_eq6 {W w : World} {x : Option Addr} {k : Nat} (hc : Hid (IntsIn W W.heap.size [18, 1] (.slice x 2 k))) (hb : Hid (Below W.heap.size W w)) :
  Calls Tryz.prog 28 #[.slice x 2 k, .slice (some ⟨w.heap.size, 0, none⟩) 2 2] (w.alloc (.cells #[.int .i64 18, .int .i64 1] 3)) fun e w' => e = .returned (.bool true) /\ Hid (Below W.heap.size W w') := by
 have hb' : Hid (Below W.heap.size W (w.alloc (.cells #[.int .i64 18, .int .i64 1] 3))) := hd_alloc hb; refine (refEq6_any [18, 1] [18, 1] _ _ _ (w.alloc (.cells #[.int .i64 18, .int .i64 1] 3)).heap.size (Nat.le_refl _) ((hc.out.below hb'.out).mono (OneR.mono _) hb'.out.size) (ints_lit [18, 1] (Blk.new w 3 _) (by simp) (by decide))).mono ?_; rintro e w' ⟨rfl, h2⟩; exact ⟨by simp, hd_then hb' h2⟩
theorem hd_holds {W w : World} {b : Nat} {a : Option Addr} {c : Nat} {n : Int} {R : Bool} (hv : Hid (DgV W b wantT a c)) (hb : Hid (Below W.heap.size W w)) (hR : walkG wantT [20, n] 4 0 = R) :
  Calls Tryz.prog 17 #[.agg #[.slice a wantT.length c], .slice (some ⟨w.heap.size, 0, none⟩) 2 2] (w.alloc (.cells #[.int .i64 20, .int .i64 n] 3)) fun e w' => e = .returned (.bool R) /\ Hid (Below W.heap.size W w') := by
 have hb' : Hid (Below W.heap.size W (w.alloc (.cells #[.int .i64 20, .int .i64 n] 3))) := hd_alloc hb; refine (holdsG_any wantT [20, n] _ _ _ (w.alloc (.cells #[.int .i64 20, .int .i64 n] 3)).heap.size (Nat.le_refl _) ((hv.out.dg.below hb'.out).mono hb'.out.size) (ints_lit [20, n] (Blk.new w 3 _) (by simp) (show (2 : Nat) <= maxLen by decide))).mono ?_; rintro e w' ⟨rfl, h2⟩; exact ⟨by rw [show wantT.length = 4 from rfl, hR], hd_then hb' h2⟩
theorem hd_valid {w0 W w : World} {b1 db b : Nat} {a : Option Addr} {c : Nat} (HE : Hid (HdS w0 W b1 db)) (hv : Hid (DgV W b wantT a c)) (hb : Hid (Below W.heap.size W w)) :
  Calls Tryz.prog 15 #[.agg #[.slice a wantT.length c], .agg #[.slice (some ⟨db, 0, none⟩) 2 2]] w fun e w' => e = .returned (.bool true) /\ Hid (Below W.heap.size W w') := by
 have hE := HE.out.step hb.out; refine (validG_any dH wantT _ _ w w.heap.size (Nat.le_refl _) (hv.out.step hb.out).dg hE.dom want64 hE.tab).mono ?_; rintro e w' ⟨rfl, h2⟩; exact ⟨by rw [want_valid], hd_then hb h2⟩
theorem hd_nil {w0 W w : World} {b1 db : Nat} (HE : Hid (HdS w0 W b1 db)) (hb : Hid (Below W.heap.size W w)) :
  Calls Tryz.prog 15 #[.agg #[.slice none 0 0], .agg #[.slice (some ⟨db, 0, none⟩) 2 2]] w fun e w' => e = .returned (.bool false) /\ Hid (Below W.heap.size W w') := by
 have hE := HE.out.step hb.out; refine (validG_any dH [] _ _ w w.heap.size (Nat.le_refl _) (DgIn.nil _ _) hE.dom (by simp) hE.tab).mono ?_; rintro e w' ⟨rfl, h2⟩; exact ⟨by rw [nil_valid], hd_then hb h2⟩
set_option maxRecDepth 100000 in
set_option maxHeartbeats 16000000 in
theorem head_any (w : World) (hT : TabH w.heap.size w) : Calls Tryz.prog 10 #[] w fun e w' => e = .returned (.bool true) /\ Below w.heap.size w w' := by
 have HTB := Lib.hid hT; clear hT; go_enter Tryz.func10, Tryz.ntmps10
 go_upto_region 3 with (first
  | (go_at_call 34; refine (domain_any _).mono ?_; rintro e w1 ⟨db, rfl, HD1, HB1⟩)
  | (go_at_call 35; refine (test_any _ _ _ _).mono ?_; rintro e w2 ⟨rfl, hb2⟩; have HB2 := Lib.hid hb2; clear hb2))
 have HX1 : Hid (Blk (w2.alloc (.cells #[.int .i64 3, .string memB, .int .i64 1, .int .i64 1, .slice none 0 0] 24)) w1.heap.size 27 #[.slice (some ⟨db, 0, none⟩) 2 2]) := ((Blk.new w1 _ _).below HB2.out).alloc _; have HX2 : Hid (Blk (w2.alloc (.cells #[.int .i64 3, .string memB, .int .i64 1, .int .i64 1, .slice none 0 0] 24)) w2.heap.size 24 #[.int .i64 3, .string memB, .int .i64 1, .int .i64 1, .slice none 0 0]) := Blk.new w2 _ _; have hb13 : Below w1.heap.size w1 (w2.alloc (.cells #[.int .i64 3, .string memB, .int .i64 1, .int .i64 1, .slice none 0 0] 24)) := (((Below.refl _ _).alloc (Nat.le_refl _) _).trans (HB2.out.mono (by simp))).alloc (by have := HB2.out.size; simp at this; omega) _; have HD3 := (HD1.out.below hb13).mono hb13.size; have hb3 := HB1.out.trans (hb13.mono HB1.out.size); have HE3 : Hid (HdS w _ w1.heap.size db) := ⟨HX1.out, HD3, fun w' h' => HTB.out w' (hb3.trans (h'.mono hb3.size)), hb3⟩; clear hb13 HD1 HB1 HB2 HD3 hb3 HX1 HTB
 change Code.wp _ _ _ _ (w2.alloc (.cells #[.int .i64 3, .string memB, .int .i64 1, .int .i64 1, .slice none 0 0] 24))
 generalize w2.alloc (.cells #[.int .i64 3, .string memB, .int .i64 1, .int .i64 1, .slice none 0 0] 24) = W3 at *
 generalize w1.heap.size = b1 at *
 generalize w2.heap.size = b2 at *
 clear w1 w2
 go_cut [3] (fun s3 wx => ∃ b rb, s3 = .pointer (some ⟨b, 0, none⟩) /\ Hid (Blk wx b 24 #[.int .i64 6, .string nilB, .int .i64 0, .int .i64 0, .slice (some ⟨rb, 0, none⟩) 2 2]) /\
  Hid (Blk wx rb 24 #[.int .i64 3, .string ageB, .int .i64 6, .int .i64 18, .slice none 0 0, .int .i64 3, .string memB, .int .i64 1, .int .i64 1, .slice none 0 0]) /\ Hid (Below W3.heap.size W3 wx))
 case first =>
  refine wp_region_held_drew (S := (fun w' : World => Hid (Below W3.heap.size W3 w'))) (by kernel_rfl) (Lib.hid (Below.refl W3.heap.size W3).drew) (fun hHeld => ?_); refine tk 1 ⟨some 23, .load 24 (.tmp 2), 24, "law.go:28", #[], none⟩ ?v3x1 ?y3x1 ?_
  case y3x1 => (intro w9 hSw; have k := HX2.out.below hSw.out; have y0 := k.cell 0; have y1 := k.cell 1; have y2 := k.cell 2; have y3 := k.cell 3; have y4 := k.cell 4; clear k; go_simp; try with_reducible rfl)
  try simp only [Act.put, sA, sB, sC]
  refine wpAnyH_ready (rs := [0, 4]) (by kernel_rfl) (by simp) ?_; refine AllReadyH.cons (o := ⟨some 22, .call { callee := .value (.func 35), args := #[.const (.string { data := #[97, 103, 101] }), .const (.int .i64 6), .const (.int .i64 18)], argTypes := #[9, 3, 3] }, 24, "law.go:28", #[], none⟩) rfl (fun K hK => ?_) (AllReadyH.cons (o := ⟨some 3, .alloc 24, 0, "law.go:28", #[], none⟩) rfl (fun K hK => ?_) AllReadyH.nil)
  ·skip
   (go_simp; go_at_call 35; refine (test_any _ _ _ _).mono ?_; rintro e w4 ⟨rfl, hb4⟩; have HM4 := hd_then (by assumption) hb4; first | (have HA4 : Hid (Blk w4 W3.heap.size _ _) := hd_newd hb4; have FLAG : (0 : Nat) = 0 := rfl) | have FLAG : (1 : Nat) = 1 := rfl; clear hb4)
   refine hK.out _ _ ?_ (fun hHeld => ?_)
   ·exact HM4
   clear hK K
   try simp only [Act.put, sA, sB, sC]
   refine wpAnyH_ready (rs := [2, 4]) (by kernel_rfl) (by simp) ?_; refine AllReadyH.cons (o := ⟨some 24, .buildSlice 22 2 #[(0, .tmp 22), (1, .tmp 23)], 22, "law.go:28", #[⟨0, .data⟩, ⟨1, .data⟩], none⟩) rfl (fun K hK => ?_) (AllReadyH.cons (o := ⟨some 3, .alloc 24, 0, "law.go:28", #[], none⟩) rfl (fun K hK => ?_) AllReadyH.nil)
   ·skip
    go_simp
    refine hK.out _ _ ?_ (fun hHeld => ?_)
    ·exact hd_alloc (by assumption)
    clear hK K
    try simp only [Act.put, sA, sB, sC]
    refine tp 3 ⟨some 25, .build 24 #[(0, .const (.int .i64 6)), (4, .tmp 24)], 24, "law.go:28", #[⟨2, .data⟩], none⟩ ?_
    try simp only [Act.put, sA, sB, sC]
    refine tr 4 ⟨some 3, .alloc 24, 0, "law.go:28", #[], none⟩ (fun K hK => ?_)
    go_simp
    refine hK.out _ _ ?_ (fun hHeld => ?_)
    ·exact hd_alloc (by assumption)
    clear hK K
    try simp only [Act.put, sA, sB, sC]
    refine tr 5 ⟨none, .store 24 (.tmp 3) (.tmp 25), 0, "law.go:28", #[⟨4, .data⟩, ⟨3, .data⟩, ⟨0, .chain⟩, ⟨0, .phase⟩, ⟨1, .phase⟩, ⟨2, .phase⟩, ⟨3, .phase⟩, ⟨4, .phase⟩], none⟩ (fun K hK => ?_)
    (first | (have zz : (1 : Nat) = 1 := FLAG; clear zz; go_simp) | (have hz := HA4.out.alloc (.cells #[.int .i64 3, .string (⟨#[97, 103, 101]⟩ : ByteArray), .int .i64 6, .int .i64 18, .slice none 0 0, .int .i64 3, .string memB, .int .i64 1, .int .i64 1, .slice none 0 0] 24); have m0 := hz.cell 0; have m1 := hz.cell 1; have m2 := hz.cell 2; have m3 := hz.cell 3; have m4 := hz.cell 4; have f0 := hz.frozen 0; have f1 := hz.frozen 1; have f2 := hz.frozen 2; have f3 := hz.frozen 3; have f4 := hz.frozen 4; obtain ⟨w5, hw5, hB5, hg5⟩ := set5 hz (.int .i64 6) (.string nilB) (.int .i64 0) (.int .i64 0) (.slice (some ⟨w4.heap.size, 0, none⟩) 2 2); have HR5 := Lib.hid ((Blk.new w4 24 #[.int .i64 3, .string (⟨#[97, 103, 101]⟩ : ByteArray), .int .i64 6, .int .i64 18, .slice none 0 0, .int .i64 3, .string memB, .int .i64 1, .int .i64 1, .slice none 0 0]).grown hg5 (hd_ne HA4)); have HM5 := Lib.hid ((hd_alloc HM4).out.grown hg5 (hd_le HM4) (hd_ge _)); have HB5 := Lib.hid hB5; have HW5 := Lib.hid hw5; clear hz hB5 hg5 hw5; go_simp; have HW := HW5.out; unfold nilB at HW; rw [<- HW]; clear HW HW5 m0 m1 m2 m3 m4 f0 f1 f2 f3 f4))
    refine hK.out _ _ ?_ (fun hHeld => ?_)
    ·first | exact HM5 | exact hd_alloc (hd_alloc HM4)
    clear hK K
    try simp only [Act.put, sA, sB, sC]
    refine wpAnyH_done (by kernel_rfl) ?_ _
    (go_wp2; go_meet; first | exact ⟨_, _, rfl, HB5, HR5, HM5⟩ | exact ⟨_, _, rfl, hd_two _ _ _ _, hd_one _ _ _ _, hd_alloc (hd_alloc HM4)⟩ | exact ⟨_, _, rfl, hd_one _ _ _ _, hd_two _ _ _ _, hd_alloc (hd_alloc HM4)⟩)
   ·skip
    go_simp
    refine hK.out _ _ ?_ (fun hHeld => ?_)
    ·exact hd_alloc (by assumption)
    clear hK K
    try simp only [Act.put, sA, sB, sC]
    refine tr 2 ⟨some 24, .buildSlice 22 2 #[(0, .tmp 22), (1, .tmp 23)], 22, "law.go:28", #[⟨0, .data⟩, ⟨1, .data⟩], none⟩ (fun K hK => ?_)
    go_simp
    refine hK.out _ _ ?_ (fun hHeld => ?_)
    ·exact hd_alloc (by assumption)
    clear hK K
    try simp only [Act.put, sA, sB, sC]
    refine tp 3 ⟨some 25, .build 24 #[(0, .const (.int .i64 6)), (4, .tmp 24)], 24, "law.go:28", #[⟨2, .data⟩], none⟩ ?_
    try simp only [Act.put, sA, sB, sC]
    refine tr 5 ⟨none, .store 24 (.tmp 3) (.tmp 25), 0, "law.go:28", #[⟨4, .data⟩, ⟨3, .data⟩, ⟨0, .chain⟩, ⟨0, .phase⟩, ⟨1, .phase⟩, ⟨2, .phase⟩, ⟨3, .phase⟩, ⟨4, .phase⟩], none⟩ (fun K hK => ?_)
    (first | (have zz : (1 : Nat) = 1 := FLAG; clear zz; go_simp) | (have hz := HA4.out.alloc (.cells #[.int .i64 3, .string (⟨#[97, 103, 101]⟩ : ByteArray), .int .i64 6, .int .i64 18, .slice none 0 0, .int .i64 3, .string memB, .int .i64 1, .int .i64 1, .slice none 0 0] 24); have m0 := hz.cell 0; have m1 := hz.cell 1; have m2 := hz.cell 2; have m3 := hz.cell 3; have m4 := hz.cell 4; have f0 := hz.frozen 0; have f1 := hz.frozen 1; have f2 := hz.frozen 2; have f3 := hz.frozen 3; have f4 := hz.frozen 4; obtain ⟨w5, hw5, hB5, hg5⟩ := set5 hz (.int .i64 6) (.string nilB) (.int .i64 0) (.int .i64 0) (.slice (some ⟨w4.heap.size, 0, none⟩) 2 2); have HR5 := Lib.hid ((Blk.new w4 24 #[.int .i64 3, .string (⟨#[97, 103, 101]⟩ : ByteArray), .int .i64 6, .int .i64 18, .slice none 0 0, .int .i64 3, .string memB, .int .i64 1, .int .i64 1, .slice none 0 0]).grown hg5 (hd_ne HA4)); have HM5 := Lib.hid ((hd_alloc HM4).out.grown hg5 (hd_le HM4) (hd_ge _)); have HB5 := Lib.hid hB5; have HW5 := Lib.hid hw5; clear hz hB5 hg5 hw5; go_simp; have HW := HW5.out; unfold nilB at HW; rw [<- HW]; clear HW HW5 m0 m1 m2 m3 m4 f0 f1 f2 f3 f4))
    refine hK.out _ _ ?_ (fun hHeld => ?_)
    ·first | exact HM5 | exact hd_alloc (hd_alloc HM4)
    clear hK K
    try simp only [Act.put, sA, sB, sC]
    refine wpAnyH_done (by kernel_rfl) ?_ _
    (go_wp2; go_meet; first | exact ⟨_, _, rfl, HB5, HR5, HM5⟩ | exact ⟨_, _, rfl, hd_two _ _ _ _, hd_one _ _ _ _, hd_alloc (hd_alloc HM4)⟩ | exact ⟨_, _, rfl, hd_one _ _ _ _, hd_two _ _ _ _, hd_alloc (hd_alloc HM4)⟩)
  ·skip
   go_simp
   refine hK.out _ _ ?_ (fun hHeld => ?_)
   ·exact hd_alloc (by assumption)
   clear hK K
   try simp only [Act.put, sA, sB, sC]
   refine tr 0 ⟨some 22, .call { callee := .value (.func 35), args := #[.const (.string { data := #[97, 103, 101] }), .const (.int .i64 6), .const (.int .i64 18)], argTypes := #[9, 3, 3] }, 24, "law.go:28", #[], none⟩ (fun K hK => ?_)
   (go_simp; go_at_call 35; refine (test_any _ _ _ _).mono ?_; rintro e w4 ⟨rfl, hb4⟩; have HM4 := hd_then (by assumption) hb4; first | (have HA4 : Hid (Blk w4 W3.heap.size _ _) := hd_newd hb4; have FLAG : (0 : Nat) = 0 := rfl) | have FLAG : (1 : Nat) = 1 := rfl; clear hb4)
   refine hK.out _ _ ?_ (fun hHeld => ?_)
   ·exact HM4
   clear hK K
   try simp only [Act.put, sA, sB, sC]
   refine tr 2 ⟨some 24, .buildSlice 22 2 #[(0, .tmp 22), (1, .tmp 23)], 22, "law.go:28", #[⟨0, .data⟩, ⟨1, .data⟩], none⟩ (fun K hK => ?_)
   go_simp
   refine hK.out _ _ ?_ (fun hHeld => ?_)
   ·exact hd_alloc (by assumption)
   clear hK K
   try simp only [Act.put, sA, sB, sC]
   refine tp 3 ⟨some 25, .build 24 #[(0, .const (.int .i64 6)), (4, .tmp 24)], 24, "law.go:28", #[⟨2, .data⟩], none⟩ ?_
   try simp only [Act.put, sA, sB, sC]
   refine tr 5 ⟨none, .store 24 (.tmp 3) (.tmp 25), 0, "law.go:28", #[⟨4, .data⟩, ⟨3, .data⟩, ⟨0, .chain⟩, ⟨0, .phase⟩, ⟨1, .phase⟩, ⟨2, .phase⟩, ⟨3, .phase⟩, ⟨4, .phase⟩], none⟩ (fun K hK => ?_)
   (first | (have zz : (1 : Nat) = 1 := FLAG; clear zz; go_simp) | (have hz := HA4.out.alloc (.cells #[.int .i64 3, .string (⟨#[97, 103, 101]⟩ : ByteArray), .int .i64 6, .int .i64 18, .slice none 0 0, .int .i64 3, .string memB, .int .i64 1, .int .i64 1, .slice none 0 0] 24); have m0 := hz.cell 0; have m1 := hz.cell 1; have m2 := hz.cell 2; have m3 := hz.cell 3; have m4 := hz.cell 4; have f0 := hz.frozen 0; have f1 := hz.frozen 1; have f2 := hz.frozen 2; have f3 := hz.frozen 3; have f4 := hz.frozen 4; obtain ⟨w5, hw5, hB5, hg5⟩ := set5 hz (.int .i64 6) (.string nilB) (.int .i64 0) (.int .i64 0) (.slice (some ⟨w4.heap.size, 0, none⟩) 2 2); have HR5 := Lib.hid ((Blk.new w4 24 #[.int .i64 3, .string (⟨#[97, 103, 101]⟩ : ByteArray), .int .i64 6, .int .i64 18, .slice none 0 0, .int .i64 3, .string memB, .int .i64 1, .int .i64 1, .slice none 0 0]).grown hg5 (hd_ne HA4)); have HM5 := Lib.hid ((hd_alloc HM4).out.grown hg5 (hd_le HM4) (hd_ge _)); have HB5 := Lib.hid hB5; have HW5 := Lib.hid hw5; clear hz hB5 hg5 hw5; go_simp; have HW := HW5.out; unfold nilB at HW; rw [<- HW]; clear HW HW5 m0 m1 m2 m3 m4 f0 f1 f2 f3 f4))
   refine hK.out _ _ ?_ (fun hHeld => ?_)
   ·first | exact HM5 | exact hd_alloc (hd_alloc HM4)
   clear hK K
   try simp only [Act.put, sA, sB, sC]
   refine wpAnyH_done (by kernel_rfl) ?_ _
   (go_wp2; go_meet; first | exact ⟨_, _, rfl, HB5, HR5, HM5⟩ | exact ⟨_, _, rfl, hd_two _ _ _ _, hd_one _ _ _ _, hd_alloc (hd_alloc HM4)⟩ | exact ⟨_, _, rfl, hd_one _ _ _ _, hd_two _ _ _ _, hd_alloc (hd_alloc HM4)⟩)
 case rest =>
  obtain ⟨b3, rb, rfl, HX3, HR3, hb4⟩ := hcut; rename World => W4
  have HE4 := Lib.hid (HE3.out.step hb4.out); have HZ4 := Lib.hid (HX2.out.below hb4.out); have x30 := HX3.out.cell 0; have x31 := HX3.out.cell 1; have x32 := HX3.out.cell 2; have x33 := HX3.out.cell 3; have x34 := HX3.out.cell 4; have x1 := HE4.out.box.cell 0; clear hb4 HE3 HX2; go_upto_region 5 with (go_at_call 12; refine (hd_build HE4 (Below.refl _ _) adult_build (by decide) (two_in HR3 HR3.out.lt (by constructor <;> decide) (by constructor <;> decide) (by constructor <;> decide) (by decide) (by constructor <;> decide) (by constructor <;> decide) (by decide))).mono ?_; rintro e w5 ⟨a4, c4, rfl, HU5, HB5⟩); have HV4 := dgv_new HU5; have hb5 := HB5.out.alloc HB5.out.size (.cells #[.slice a4 wantT.length c4] 34); have HE5 := Lib.hid (HE4.out.step hb5); have HZ5 := Lib.hid (HZ4.out.below hb5); clear hb5 HB5 HU5 HZ4 HE4 HX3 HR3 x30 x31 x32 x33 x34 x1; generalize w5.alloc (.cells #[.slice a4 wantT.length c4] 34) = W5 at *
  generalize w5.heap.size = b4 at *
  go_cut [6, 7] (fun s6 s7 wx => ∃ b a c, s6 = .pointer (some ⟨b, 0, none⟩) /\ s7 = .int .i64 0 /\ Hid (DgV wx b yesT a c) /\ Hid (Below W5.heap.size W5 wx))
  case first =>
   refine wp_region_held_drew (S := (fun w' : World => Hid (Below W5.heap.size W5 w'))) (by kernel_rfl) (Lib.hid (Below.refl W5.heap.size W5).drew) (fun hHeld => ?_); refine tk 1 ⟨some 34, .load 27 (.tmp 1), 27, "law.go:30", #[], none⟩ ?v5x1 ?y5x1 ?_
   case y5x1 => (intro w9 hSw; have y0 := (HE5.out.box.below hSw.out).cell 0; go_simp; try with_reducible rfl)
   try simp only [Act.put, sA, sB, sC]
   refine wpAnyH_ready (rs := [0, 6]) (by kernel_rfl) (by simp) ?_; refine AllReadyH.cons (o := ⟨some 33, .call { callee := .value (.func 35), args := #[.const (.string { data := #[97, 103, 101] }), .const (.int .i64 6), .const (.int .i64 0)], argTypes := #[9, 3, 3] }, 24, "law.go:30", #[], none⟩) rfl (fun K hK => ?_) (AllReadyH.cons (o := ⟨some 6, .alloc 34, 0, "law.go:30", #[], none⟩) rfl (fun K hK => ?_) AllReadyH.nil)
   ·skip
    (go_simp; go_at_call 35; refine (test_any _ _ _ _).mono ?_; rintro e w4 ⟨rfl, hb4⟩; have HM4 := hd_then (by assumption) hb4; first | (have HA4 : Hid (Blk w4 W5.heap.size _ _) := hd_newd hb4; have HL4 : Hid (W5.heap.size <= W5.heap.size) := Nat.le_refl _) | skip; clear hb4)
    refine hK.out _ _ ?_ (fun hHeld => ?_)
    ·exact HM4
    clear hK K
    try simp only [Act.put, sA, sB, sC]
    refine wpAnyH_ready (rs := [2, 6]) (by kernel_rfl) (by simp) ?_; refine AllReadyH.cons (o := ⟨some 35, .call { callee := .value (.func 12), args := #[.tmp 33, .tmp 34], argTypes := #[24, 27] }, 36, "law.go:30", #[⟨0, .data⟩, ⟨1, .data⟩, ⟨0, .chain⟩], none⟩) rfl (fun K hK => ?_) (AllReadyH.cons (o := ⟨some 6, .alloc 34, 0, "law.go:30", #[], none⟩) rfl (fun K hK => ?_) AllReadyH.nil)
    ·skip
     (go_simp; go_at_call 12; refine hd_leaf HE5 all_build (by constructor <;> decide) (by constructor <;> decide) (by decide) (by assumption) ?_; intro a5 c5 w5 HU5 hb5; have HM5 := hd_then (by assumption) hb5.out; first | (have HA5 := Lib.hid (HA4.out.below hb5.out); have HL5 := HL4; have FLAG : (0 : Nat) = 0 := rfl) | (have HA5 : Hid (Blk w5 w4.heap.size _ _) := hd_new hb5.out; have HL5 : Hid (W5.heap.size <= w4.heap.size) := HM4.out.size; have FLAG : (0 : Nat) = 0 := rfl) | have FLAG : (1 : Nat) = 1 := rfl; clear hb5)
     refine hK.out _ _ ?_ (fun hHeld => ?_)
     ·exact HM5
     clear hK K
     try simp only [Act.put, sA, sB, sC]
     refine tp 3 ⟨some 32, .move (.tmp 35), 36, "law.go:30", #[⟨2, .data⟩], none⟩ ?_
     try simp only [Act.put, sA, sB, sC]
     refine tp 4 ⟨some 36, .extract (.tmp 32) 0, 34, "law.go:30", #[⟨3, .data⟩], none⟩ ?_
     try simp only [Act.put, sA, sB, sC]
     refine tp 5 ⟨some 37, .extract (.tmp 32) 1, 35, "law.go:30", #[⟨3, .data⟩, ⟨7, .gcOnly .lateStores⟩], none⟩ ?_
     try simp only [Act.put, sA, sB, sC]
     refine tr 6 ⟨some 6, .alloc 34, 0, "law.go:30", #[], none⟩ (fun K hK => ?_)
     go_simp
     refine hK.out _ _ ?_ (fun hHeld => ?_)
     ·exact hd_alloc (by assumption)
     clear hK K
     try simp only [Act.put, sA, sB, sC]
     refine tr 7 ⟨none, .store 34 (.tmp 6) (.tmp 36), 0, "law.go:30", #[⟨6, .data⟩, ⟨4, .data⟩, ⟨2, .chain⟩, ⟨0, .phase⟩, ⟨1, .phase⟩, ⟨2, .phase⟩, ⟨3, .phase⟩, ⟨4, .phase⟩, ⟨5, .textOnly .lateStores⟩, ⟨6, .phase⟩], none⟩ (fun K hK => ?_)
     (first | (have zz : (1 : Nat) = 1 := FLAG; clear zz; go_simp) | (have cz := HA5.out.cell 0; have fz := HA5.out.frozen 0; go_simp))
     refine hK.out _ _ ?_ (fun hHeld => ?_)
     ·first | exact hd_alloc HM5 | exact hd_set HM5 HL5
     clear hK K
     try simp only [Act.put, sA, sB, sC]
     refine tp 8 ⟨some 7, .assign (.tmp 37), 35, "law.go:30", #[⟨5, .data⟩, ⟨7, .chain⟩, ⟨0, .phase⟩, ⟨1, .phase⟩, ⟨2, .phase⟩, ⟨3, .phase⟩, ⟨4, .phase⟩, ⟨5, .phase⟩, ⟨6, .phase⟩, ⟨7, .phase⟩], none⟩ ?_
     try simp only [Act.put, sA, sB, sC]
     refine wpAnyH_done (by kernel_rfl) ?_ _
     (go_wp2; go_meet; first | exact ⟨_, _, _, rfl, rfl, dgv_new HU5, hd_alloc HM5⟩ | exact ⟨_, _, _, rfl, rfl, dgv_set HA5 HU5, hd_set HM5 HL5⟩)
    ·skip
     go_simp
     refine hK.out _ _ ?_ (fun hHeld => ?_)
     ·exact hd_alloc (by assumption)
     clear hK K
     try simp only [Act.put, sA, sB, sC]
     refine tr 2 ⟨some 35, .call { callee := .value (.func 12), args := #[.tmp 33, .tmp 34], argTypes := #[24, 27] }, 36, "law.go:30", #[⟨0, .data⟩, ⟨1, .data⟩, ⟨0, .chain⟩], none⟩ (fun K hK => ?_)
     (go_simp; go_at_call 12; refine hd_leaf HE5 all_build (by constructor <;> decide) (by constructor <;> decide) (by decide) (by assumption) ?_; intro a5 c5 w5 HU5 hb5; have HM5 := hd_then (by assumption) hb5.out; first | (have HA5 := Lib.hid (HA4.out.below hb5.out); have HL5 := HL4; have FLAG : (0 : Nat) = 0 := rfl) | (have HA5 : Hid (Blk w5 w4.heap.size _ _) := hd_new hb5.out; have HL5 : Hid (W5.heap.size <= w4.heap.size) := HM4.out.size; have FLAG : (0 : Nat) = 0 := rfl) | have FLAG : (1 : Nat) = 1 := rfl; clear hb5)
     refine hK.out _ _ ?_ (fun hHeld => ?_)
     ·exact HM5
     clear hK K
     try simp only [Act.put, sA, sB, sC]
     refine tp 3 ⟨some 32, .move (.tmp 35), 36, "law.go:30", #[⟨2, .data⟩], none⟩ ?_
     try simp only [Act.put, sA, sB, sC]
     refine tp 4 ⟨some 36, .extract (.tmp 32) 0, 34, "law.go:30", #[⟨3, .data⟩], none⟩ ?_
     try simp only [Act.put, sA, sB, sC]
     refine tp 5 ⟨some 37, .extract (.tmp 32) 1, 35, "law.go:30", #[⟨3, .data⟩, ⟨7, .gcOnly .lateStores⟩], none⟩ ?_
     try simp only [Act.put, sA, sB, sC]
     refine tr 7 ⟨none, .store 34 (.tmp 6) (.tmp 36), 0, "law.go:30", #[⟨6, .data⟩, ⟨4, .data⟩, ⟨2, .chain⟩, ⟨0, .phase⟩, ⟨1, .phase⟩, ⟨2, .phase⟩, ⟨3, .phase⟩, ⟨4, .phase⟩, ⟨5, .textOnly .lateStores⟩, ⟨6, .phase⟩], none⟩ (fun K hK => ?_)
     (first | (have zz : (1 : Nat) = 1 := FLAG; clear zz; go_simp) | (have cz := HA5.out.cell 0; have fz := HA5.out.frozen 0; go_simp))
     refine hK.out _ _ ?_ (fun hHeld => ?_)
     ·first | exact hd_alloc HM5 | exact hd_set HM5 HL5
     clear hK K
     try simp only [Act.put, sA, sB, sC]
     refine tp 8 ⟨some 7, .assign (.tmp 37), 35, "law.go:30", #[⟨5, .data⟩, ⟨7, .chain⟩, ⟨0, .phase⟩, ⟨1, .phase⟩, ⟨2, .phase⟩, ⟨3, .phase⟩, ⟨4, .phase⟩, ⟨5, .phase⟩, ⟨6, .phase⟩, ⟨7, .phase⟩], none⟩ ?_
     try simp only [Act.put, sA, sB, sC]
     refine wpAnyH_done (by kernel_rfl) ?_ _
     (go_wp2; go_meet; first | exact ⟨_, _, _, rfl, rfl, dgv_new HU5, hd_alloc HM5⟩ | exact ⟨_, _, _, rfl, rfl, dgv_set HA5 HU5, hd_set HM5 HL5⟩)
   ·skip
    go_simp
    refine hK.out _ _ ?_ (fun hHeld => ?_)
    ·exact hd_alloc (by assumption)
    clear hK K
    try simp only [Act.put, sA, sB, sC]
    refine tr 0 ⟨some 33, .call { callee := .value (.func 35), args := #[.const (.string { data := #[97, 103, 101] }), .const (.int .i64 6), .const (.int .i64 0)], argTypes := #[9, 3, 3] }, 24, "law.go:30", #[], none⟩ (fun K hK => ?_)
    (go_simp; go_at_call 35; refine (test_any _ _ _ _).mono ?_; rintro e w4 ⟨rfl, hb4⟩; have HM4 := hd_then (by assumption) hb4; first | (have HA4 : Hid (Blk w4 W5.heap.size _ _) := hd_newd hb4; have HL4 : Hid (W5.heap.size <= W5.heap.size) := Nat.le_refl _) | skip; clear hb4)
    refine hK.out _ _ ?_ (fun hHeld => ?_)
    ·exact HM4
    clear hK K
    try simp only [Act.put, sA, sB, sC]
    refine tr 2 ⟨some 35, .call { callee := .value (.func 12), args := #[.tmp 33, .tmp 34], argTypes := #[24, 27] }, 36, "law.go:30", #[⟨0, .data⟩, ⟨1, .data⟩, ⟨0, .chain⟩], none⟩ (fun K hK => ?_)
    (go_simp; go_at_call 12; refine hd_leaf HE5 all_build (by constructor <;> decide) (by constructor <;> decide) (by decide) (by assumption) ?_; intro a5 c5 w5 HU5 hb5; have HM5 := hd_then (by assumption) hb5.out; first | (have HA5 := Lib.hid (HA4.out.below hb5.out); have HL5 := HL4; have FLAG : (0 : Nat) = 0 := rfl) | (have HA5 : Hid (Blk w5 w4.heap.size _ _) := hd_new hb5.out; have HL5 : Hid (W5.heap.size <= w4.heap.size) := HM4.out.size; have FLAG : (0 : Nat) = 0 := rfl) | have FLAG : (1 : Nat) = 1 := rfl; clear hb5)
    refine hK.out _ _ ?_ (fun hHeld => ?_)
    ·exact HM5
    clear hK K
    try simp only [Act.put, sA, sB, sC]
    refine tp 3 ⟨some 32, .move (.tmp 35), 36, "law.go:30", #[⟨2, .data⟩], none⟩ ?_
    try simp only [Act.put, sA, sB, sC]
    refine tp 4 ⟨some 36, .extract (.tmp 32) 0, 34, "law.go:30", #[⟨3, .data⟩], none⟩ ?_
    try simp only [Act.put, sA, sB, sC]
    refine tp 5 ⟨some 37, .extract (.tmp 32) 1, 35, "law.go:30", #[⟨3, .data⟩, ⟨7, .gcOnly .lateStores⟩], none⟩ ?_
    try simp only [Act.put, sA, sB, sC]
    refine tr 7 ⟨none, .store 34 (.tmp 6) (.tmp 36), 0, "law.go:30", #[⟨6, .data⟩, ⟨4, .data⟩, ⟨2, .chain⟩, ⟨0, .phase⟩, ⟨1, .phase⟩, ⟨2, .phase⟩, ⟨3, .phase⟩, ⟨4, .phase⟩, ⟨5, .textOnly .lateStores⟩, ⟨6, .phase⟩], none⟩ (fun K hK => ?_)
    (first | (have zz : (1 : Nat) = 1 := FLAG; clear zz; go_simp) | (have cz := HA5.out.cell 0; have fz := HA5.out.frozen 0; go_simp))
    refine hK.out _ _ ?_ (fun hHeld => ?_)
    ·first | exact hd_alloc HM5 | exact hd_set HM5 HL5
    clear hK K
    try simp only [Act.put, sA, sB, sC]
    refine tp 8 ⟨some 7, .assign (.tmp 37), 35, "law.go:30", #[⟨5, .data⟩, ⟨7, .chain⟩, ⟨0, .phase⟩, ⟨1, .phase⟩, ⟨2, .phase⟩, ⟨3, .phase⟩, ⟨4, .phase⟩, ⟨5, .phase⟩, ⟨6, .phase⟩, ⟨7, .phase⟩], none⟩ ?_
    try simp only [Act.put, sA, sB, sC]
    refine wpAnyH_done (by kernel_rfl) ?_ _
    (go_wp2; go_meet; first | exact ⟨_, _, _, rfl, rfl, dgv_new HU5, hd_alloc HM5⟩ | exact ⟨_, _, _, rfl, rfl, dgv_set HA5 HU5, hd_set HM5 HL5⟩)
  case rest =>
   obtain ⟨b6, a6, c6, rfl, rfl, HV6, hb6⟩ := hcut; rename World => W6
   have HE6 := Lib.hid (HE5.out.step hb6.out); have HZ6 := Lib.hid (HZ5.out.below hb6.out); have HV4' := Lib.hid (HV4.out.step hb6.out); clear hb6 HE5 HZ5 HV4; go_upto_region 6 with (fail)
   go_cut [8, 9] (fun s8 s9 wx => ∃ b a c, s8 = .pointer (some ⟨b, 0, none⟩) /\ s9 = .int .i64 0 /\ Hid (DgV wx b yesT a c) /\ Hid (Below W6.heap.size W6 wx))
   case first =>
    refine wp_region_held_drew (S := (fun w' : World => Hid (Below W6.heap.size W6 w'))) (by kernel_rfl) (Lib.hid (Below.refl W6.heap.size W6).drew) (fun hHeld => ?_); refine tk 0 ⟨some 39, .load 24 (.tmp 2), 24, "law.go:31", #[], none⟩ ?v6x0 ?y6x0 ?_
    case y6x0 => (intro w9 hSw; have k := HZ6.out.below hSw.out; have y0 := k.cell 0; have y1 := k.cell 1; have y2 := k.cell 2; have y3 := k.cell 3; have y4 := k.cell 4; clear k; go_simp; try with_reducible rfl)
    try simp only [Act.put, sA, sB, sC]
    refine tk 4 ⟨some 43, .load 27 (.tmp 1), 27, "law.go:31", #[], none⟩ ?v6x4 ?y6x4 ?_
    case y6x4 => (intro w9 hSw; have y0 := (HE6.out.box.below hSw.out).cell 0; go_simp; try with_reducible rfl)
    try simp only [Act.put, sA, sB, sC]
    refine wpAnyH_ready (rs := [1, 9]) (by kernel_rfl) (by simp) ?_; refine AllReadyH.cons (o := ⟨some 40, .call { callee := .value (.func 35), args := #[.const (.string { data := #[109, 101, 109, 98, 101, 114] }), .const (.int .i64 1), .const (.int .i64 0)], argTypes := #[9, 3, 3] }, 24, "law.go:31", #[], none⟩) rfl (fun K hK => ?_) (AllReadyH.cons (o := ⟨some 8, .alloc 34, 0, "law.go:31", #[], none⟩) rfl (fun K hK => ?_) AllReadyH.nil)
    ·skip
     (go_simp; go_at_call 35; refine (test_any _ _ _ _).mono ?_; rintro e w4 ⟨rfl, hb4⟩; have HM4 := hd_then (by assumption) hb4; first | (have HA4 : Hid (Blk w4 W6.heap.size _ _) := hd_newd hb4; have HL4 : Hid (W6.heap.size <= W6.heap.size) := Nat.le_refl _) | skip; clear hb4)
     refine hK.out _ _ ?_ (fun hHeld => ?_)
     ·exact HM4
     clear hK K
     try simp only [Act.put, sA, sB, sC]
     refine wpAnyH_ready (rs := [2, 9]) (by kernel_rfl) (by simp) ?_; refine AllReadyH.cons (o := ⟨some 41, .buildSlice 22 2 #[(0, .tmp 39), (1, .tmp 40)], 22, "law.go:31", #[⟨0, .data⟩, ⟨1, .data⟩], none⟩) rfl (fun K hK => ?_) (AllReadyH.cons (o := ⟨some 8, .alloc 34, 0, "law.go:31", #[], none⟩) rfl (fun K hK => ?_) AllReadyH.nil)
     ·skip
      go_simp
      refine hK.out _ _ ?_ (fun hHeld => ?_)
      ·exact hd_alloc (by assumption)
      clear hK K
      try simp only [Act.put, sA, sB, sC]
      refine tp 3 ⟨some 42, .build 24 #[(0, .const (.int .i64 7)), (4, .tmp 41)], 24, "law.go:31", #[⟨2, .data⟩], none⟩ ?_
      try simp only [Act.put, sA, sB, sC]
      refine wpAnyH_ready (rs := [5, 9]) (by kernel_rfl) (by simp) ?_; refine AllReadyH.cons (o := ⟨some 44, .call { callee := .value (.func 12), args := #[.tmp 42, .tmp 43], argTypes := #[24, 27] }, 36, "law.go:31", #[⟨3, .data⟩, ⟨4, .data⟩, ⟨1, .chain⟩], none⟩) rfl (fun K hK => ?_) (AllReadyH.cons (o := ⟨some 8, .alloc 34, 0, "law.go:31", #[], none⟩) rfl (fun K hK => ?_) AllReadyH.nil)
      ·skip
       (go_simp; go_at_call 12; refine hd_pair HE6 none_build (by constructor <;> decide) (by constructor <;> decide) (by constructor <;> decide) (by decide) (by constructor <;> decide) (by constructor <;> decide) (by decide) ?_ (by assumption) ?_; (first | exact hd_two w4 _ _ _ | exact hd_here w4 _ _ | exact hd_one w4 _ _ _); intro a5 c5 w5 HU5 hb5; have HM5 := hd_then (by assumption) hb5.out; first | (have HA5 := Lib.hid ((HA4.out.alloc _).below hb5.out); have HL5 := HL4; have FLAG : (0 : Nat) = 0 := rfl) | (have HA5 : Hid (Blk w5 (w4.heap.size + 1) 34 #[.slice none 0 0]) := hd_newp hb5; have HL5 : Hid (W6.heap.size <= w4.heap.size + 1) := Nat.le_succ_of_le HM4.out.size; have FLAG : (0 : Nat) = 0 := rfl) | (have HA5 : Hid (Blk w5 w4.heap.size 34 #[.slice none 0 0]) := hd_newq hb5; have HL5 : Hid (W6.heap.size <= w4.heap.size) := HM4.out.size; have FLAG : (0 : Nat) = 0 := rfl) | have FLAG : (1 : Nat) = 1 := rfl; clear hb5)
       refine hK.out _ _ ?_ (fun hHeld => ?_)
       ·exact HM5
       clear hK K
       try simp only [Act.put, sA, sB, sC]
       refine tp 6 ⟨some 38, .move (.tmp 44), 36, "law.go:31", #[⟨5, .data⟩], none⟩ ?_
       try simp only [Act.put, sA, sB, sC]
       refine tp 7 ⟨some 45, .extract (.tmp 38) 0, 34, "law.go:31", #[⟨6, .data⟩], none⟩ ?_
       try simp only [Act.put, sA, sB, sC]
       refine tp 8 ⟨some 46, .extract (.tmp 38) 1, 35, "law.go:31", #[⟨6, .data⟩, ⟨10, .gcOnly .lateStores⟩], none⟩ ?_
       try simp only [Act.put, sA, sB, sC]
       refine tr 9 ⟨some 8, .alloc 34, 0, "law.go:31", #[], none⟩ (fun K hK => ?_)
       go_simp
       refine hK.out _ _ ?_ (fun hHeld => ?_)
       ·exact hd_alloc (by assumption)
       clear hK K
       try simp only [Act.put, sA, sB, sC]
       refine tr 10 ⟨none, .store 34 (.tmp 8) (.tmp 45), 0, "law.go:31", #[⟨9, .data⟩, ⟨7, .data⟩, ⟨5, .chain⟩, ⟨0, .phase⟩, ⟨1, .phase⟩, ⟨2, .phase⟩, ⟨3, .phase⟩, ⟨4, .phase⟩, ⟨5, .phase⟩, ⟨6, .phase⟩, ⟨7, .phase⟩, ⟨8, .textOnly .lateStores⟩, ⟨9, .phase⟩], none⟩ (fun K hK => ?_)
       (first | (have zz : (1 : Nat) = 1 := FLAG; clear zz; go_simp) | (have cz := HA5.out.cell 0; have fz := HA5.out.frozen 0; go_simp))
       refine hK.out _ _ ?_ (fun hHeld => ?_)
       ·first | exact hd_alloc HM5 | exact hd_set HM5 HL5
       clear hK K
       try simp only [Act.put, sA, sB, sC]
       refine tp 11 ⟨some 9, .assign (.tmp 46), 35, "law.go:31", #[⟨8, .data⟩, ⟨10, .chain⟩, ⟨0, .phase⟩, ⟨1, .phase⟩, ⟨2, .phase⟩, ⟨3, .phase⟩, ⟨4, .phase⟩, ⟨5, .phase⟩, ⟨6, .phase⟩, ⟨7, .phase⟩, ⟨8, .phase⟩, ⟨9, .phase⟩, ⟨10, .phase⟩], none⟩ ?_
       try simp only [Act.put, sA, sB, sC]
       refine wpAnyH_done (by kernel_rfl) ?_ _
       (go_wp2; go_meet; first | exact ⟨_, _, _, rfl, rfl, dgv_new HU5, hd_alloc HM5⟩ | exact ⟨_, _, _, rfl, rfl, dgv_set HA5 HU5, hd_set HM5 HL5⟩)
      ·skip
       go_simp
       refine hK.out _ _ ?_ (fun hHeld => ?_)
       ·exact hd_alloc (by assumption)
       clear hK K
       try simp only [Act.put, sA, sB, sC]
       refine tr 5 ⟨some 44, .call { callee := .value (.func 12), args := #[.tmp 42, .tmp 43], argTypes := #[24, 27] }, 36, "law.go:31", #[⟨3, .data⟩, ⟨4, .data⟩, ⟨1, .chain⟩], none⟩ (fun K hK => ?_)
       (go_simp; go_at_call 12; refine hd_pair HE6 none_build (by constructor <;> decide) (by constructor <;> decide) (by constructor <;> decide) (by decide) (by constructor <;> decide) (by constructor <;> decide) (by decide) ?_ (by assumption) ?_; (first | exact hd_two w4 _ _ _ | exact hd_here w4 _ _ | exact hd_one w4 _ _ _); intro a5 c5 w5 HU5 hb5; have HM5 := hd_then (by assumption) hb5.out; first | (have HA5 := Lib.hid ((HA4.out.alloc _).below hb5.out); have HL5 := HL4; have FLAG : (0 : Nat) = 0 := rfl) | (have HA5 : Hid (Blk w5 (w4.heap.size + 1) 34 #[.slice none 0 0]) := hd_newp hb5; have HL5 : Hid (W6.heap.size <= w4.heap.size + 1) := Nat.le_succ_of_le HM4.out.size; have FLAG : (0 : Nat) = 0 := rfl) | (have HA5 : Hid (Blk w5 w4.heap.size 34 #[.slice none 0 0]) := hd_newq hb5; have HL5 : Hid (W6.heap.size <= w4.heap.size) := HM4.out.size; have FLAG : (0 : Nat) = 0 := rfl) | have FLAG : (1 : Nat) = 1 := rfl; clear hb5)
       refine hK.out _ _ ?_ (fun hHeld => ?_)
       ·exact HM5
       clear hK K
       try simp only [Act.put, sA, sB, sC]
       refine tp 6 ⟨some 38, .move (.tmp 44), 36, "law.go:31", #[⟨5, .data⟩], none⟩ ?_
       try simp only [Act.put, sA, sB, sC]
       refine tp 7 ⟨some 45, .extract (.tmp 38) 0, 34, "law.go:31", #[⟨6, .data⟩], none⟩ ?_
       try simp only [Act.put, sA, sB, sC]
       refine tp 8 ⟨some 46, .extract (.tmp 38) 1, 35, "law.go:31", #[⟨6, .data⟩, ⟨10, .gcOnly .lateStores⟩], none⟩ ?_
       try simp only [Act.put, sA, sB, sC]
       refine tr 10 ⟨none, .store 34 (.tmp 8) (.tmp 45), 0, "law.go:31", #[⟨9, .data⟩, ⟨7, .data⟩, ⟨5, .chain⟩, ⟨0, .phase⟩, ⟨1, .phase⟩, ⟨2, .phase⟩, ⟨3, .phase⟩, ⟨4, .phase⟩, ⟨5, .phase⟩, ⟨6, .phase⟩, ⟨7, .phase⟩, ⟨8, .textOnly .lateStores⟩, ⟨9, .phase⟩], none⟩ (fun K hK => ?_)
       (first | (have zz : (1 : Nat) = 1 := FLAG; clear zz; go_simp) | (have cz := HA5.out.cell 0; have fz := HA5.out.frozen 0; go_simp))
       refine hK.out _ _ ?_ (fun hHeld => ?_)
       ·first | exact hd_alloc HM5 | exact hd_set HM5 HL5
       clear hK K
       try simp only [Act.put, sA, sB, sC]
       refine tp 11 ⟨some 9, .assign (.tmp 46), 35, "law.go:31", #[⟨8, .data⟩, ⟨10, .chain⟩, ⟨0, .phase⟩, ⟨1, .phase⟩, ⟨2, .phase⟩, ⟨3, .phase⟩, ⟨4, .phase⟩, ⟨5, .phase⟩, ⟨6, .phase⟩, ⟨7, .phase⟩, ⟨8, .phase⟩, ⟨9, .phase⟩, ⟨10, .phase⟩], none⟩ ?_
       try simp only [Act.put, sA, sB, sC]
       refine wpAnyH_done (by kernel_rfl) ?_ _
       (go_wp2; go_meet; first | exact ⟨_, _, _, rfl, rfl, dgv_new HU5, hd_alloc HM5⟩ | exact ⟨_, _, _, rfl, rfl, dgv_set HA5 HU5, hd_set HM5 HL5⟩)
     ·skip
      go_simp
      refine hK.out _ _ ?_ (fun hHeld => ?_)
      ·exact hd_alloc (by assumption)
      clear hK K
      try simp only [Act.put, sA, sB, sC]
      refine tr 2 ⟨some 41, .buildSlice 22 2 #[(0, .tmp 39), (1, .tmp 40)], 22, "law.go:31", #[⟨0, .data⟩, ⟨1, .data⟩], none⟩ (fun K hK => ?_)
      go_simp
      refine hK.out _ _ ?_ (fun hHeld => ?_)
      ·exact hd_alloc (by assumption)
      clear hK K
      try simp only [Act.put, sA, sB, sC]
      refine tp 3 ⟨some 42, .build 24 #[(0, .const (.int .i64 7)), (4, .tmp 41)], 24, "law.go:31", #[⟨2, .data⟩], none⟩ ?_
      try simp only [Act.put, sA, sB, sC]
      refine tr 5 ⟨some 44, .call { callee := .value (.func 12), args := #[.tmp 42, .tmp 43], argTypes := #[24, 27] }, 36, "law.go:31", #[⟨3, .data⟩, ⟨4, .data⟩, ⟨1, .chain⟩], none⟩ (fun K hK => ?_)
      (go_simp; go_at_call 12; refine hd_pair HE6 none_build (by constructor <;> decide) (by constructor <;> decide) (by constructor <;> decide) (by decide) (by constructor <;> decide) (by constructor <;> decide) (by decide) ?_ (by assumption) ?_; (first | exact hd_two w4 _ _ _ | exact hd_here w4 _ _ | exact hd_one w4 _ _ _); intro a5 c5 w5 HU5 hb5; have HM5 := hd_then (by assumption) hb5.out; first | (have HA5 := Lib.hid ((HA4.out.alloc _).below hb5.out); have HL5 := HL4; have FLAG : (0 : Nat) = 0 := rfl) | (have HA5 : Hid (Blk w5 (w4.heap.size + 1) 34 #[.slice none 0 0]) := hd_newp hb5; have HL5 : Hid (W6.heap.size <= w4.heap.size + 1) := Nat.le_succ_of_le HM4.out.size; have FLAG : (0 : Nat) = 0 := rfl) | (have HA5 : Hid (Blk w5 w4.heap.size 34 #[.slice none 0 0]) := hd_newq hb5; have HL5 : Hid (W6.heap.size <= w4.heap.size) := HM4.out.size; have FLAG : (0 : Nat) = 0 := rfl) | have FLAG : (1 : Nat) = 1 := rfl; clear hb5)
      refine hK.out _ _ ?_ (fun hHeld => ?_)
      ·exact HM5
      clear hK K
      try simp only [Act.put, sA, sB, sC]
      refine tp 6 ⟨some 38, .move (.tmp 44), 36, "law.go:31", #[⟨5, .data⟩], none⟩ ?_
      try simp only [Act.put, sA, sB, sC]
      refine tp 7 ⟨some 45, .extract (.tmp 38) 0, 34, "law.go:31", #[⟨6, .data⟩], none⟩ ?_
      try simp only [Act.put, sA, sB, sC]
      refine tp 8 ⟨some 46, .extract (.tmp 38) 1, 35, "law.go:31", #[⟨6, .data⟩, ⟨10, .gcOnly .lateStores⟩], none⟩ ?_
      try simp only [Act.put, sA, sB, sC]
      refine tr 10 ⟨none, .store 34 (.tmp 8) (.tmp 45), 0, "law.go:31", #[⟨9, .data⟩, ⟨7, .data⟩, ⟨5, .chain⟩, ⟨0, .phase⟩, ⟨1, .phase⟩, ⟨2, .phase⟩, ⟨3, .phase⟩, ⟨4, .phase⟩, ⟨5, .phase⟩, ⟨6, .phase⟩, ⟨7, .phase⟩, ⟨8, .textOnly .lateStores⟩, ⟨9, .phase⟩], none⟩ (fun K hK => ?_)
      (first | (have zz : (1 : Nat) = 1 := FLAG; clear zz; go_simp) | (have cz := HA5.out.cell 0; have fz := HA5.out.frozen 0; go_simp))
      refine hK.out _ _ ?_ (fun hHeld => ?_)
      ·first | exact hd_alloc HM5 | exact hd_set HM5 HL5
      clear hK K
      try simp only [Act.put, sA, sB, sC]
      refine tp 11 ⟨some 9, .assign (.tmp 46), 35, "law.go:31", #[⟨8, .data⟩, ⟨10, .chain⟩, ⟨0, .phase⟩, ⟨1, .phase⟩, ⟨2, .phase⟩, ⟨3, .phase⟩, ⟨4, .phase⟩, ⟨5, .phase⟩, ⟨6, .phase⟩, ⟨7, .phase⟩, ⟨8, .phase⟩, ⟨9, .phase⟩, ⟨10, .phase⟩], none⟩ ?_
      try simp only [Act.put, sA, sB, sC]
      refine wpAnyH_done (by kernel_rfl) ?_ _
      (go_wp2; go_meet; first | exact ⟨_, _, _, rfl, rfl, dgv_new HU5, hd_alloc HM5⟩ | exact ⟨_, _, _, rfl, rfl, dgv_set HA5 HU5, hd_set HM5 HL5⟩)
    ·skip
     go_simp
     refine hK.out _ _ ?_ (fun hHeld => ?_)
     ·exact hd_alloc (by assumption)
     clear hK K
     try simp only [Act.put, sA, sB, sC]
     refine tr 1 ⟨some 40, .call { callee := .value (.func 35), args := #[.const (.string { data := #[109, 101, 109, 98, 101, 114] }), .const (.int .i64 1), .const (.int .i64 0)], argTypes := #[9, 3, 3] }, 24, "law.go:31", #[], none⟩ (fun K hK => ?_)
     (go_simp; go_at_call 35; refine (test_any _ _ _ _).mono ?_; rintro e w4 ⟨rfl, hb4⟩; have HM4 := hd_then (by assumption) hb4; first | (have HA4 : Hid (Blk w4 W6.heap.size _ _) := hd_newd hb4; have HL4 : Hid (W6.heap.size <= W6.heap.size) := Nat.le_refl _) | skip; clear hb4)
     refine hK.out _ _ ?_ (fun hHeld => ?_)
     ·exact HM4
     clear hK K
     try simp only [Act.put, sA, sB, sC]
     refine tr 2 ⟨some 41, .buildSlice 22 2 #[(0, .tmp 39), (1, .tmp 40)], 22, "law.go:31", #[⟨0, .data⟩, ⟨1, .data⟩], none⟩ (fun K hK => ?_)
     go_simp
     refine hK.out _ _ ?_ (fun hHeld => ?_)
     ·exact hd_alloc (by assumption)
     clear hK K
     try simp only [Act.put, sA, sB, sC]
     refine tp 3 ⟨some 42, .build 24 #[(0, .const (.int .i64 7)), (4, .tmp 41)], 24, "law.go:31", #[⟨2, .data⟩], none⟩ ?_
     try simp only [Act.put, sA, sB, sC]
     refine tr 5 ⟨some 44, .call { callee := .value (.func 12), args := #[.tmp 42, .tmp 43], argTypes := #[24, 27] }, 36, "law.go:31", #[⟨3, .data⟩, ⟨4, .data⟩, ⟨1, .chain⟩], none⟩ (fun K hK => ?_)
     (go_simp; go_at_call 12; refine hd_pair HE6 none_build (by constructor <;> decide) (by constructor <;> decide) (by constructor <;> decide) (by decide) (by constructor <;> decide) (by constructor <;> decide) (by decide) ?_ (by assumption) ?_; (first | exact hd_two w4 _ _ _ | exact hd_here w4 _ _ | exact hd_one w4 _ _ _); intro a5 c5 w5 HU5 hb5; have HM5 := hd_then (by assumption) hb5.out; first | (have HA5 := Lib.hid ((HA4.out.alloc _).below hb5.out); have HL5 := HL4; have FLAG : (0 : Nat) = 0 := rfl) | (have HA5 : Hid (Blk w5 (w4.heap.size + 1) 34 #[.slice none 0 0]) := hd_newp hb5; have HL5 : Hid (W6.heap.size <= w4.heap.size + 1) := Nat.le_succ_of_le HM4.out.size; have FLAG : (0 : Nat) = 0 := rfl) | (have HA5 : Hid (Blk w5 w4.heap.size 34 #[.slice none 0 0]) := hd_newq hb5; have HL5 : Hid (W6.heap.size <= w4.heap.size) := HM4.out.size; have FLAG : (0 : Nat) = 0 := rfl) | have FLAG : (1 : Nat) = 1 := rfl; clear hb5)
     refine hK.out _ _ ?_ (fun hHeld => ?_)
     ·exact HM5
     clear hK K
     try simp only [Act.put, sA, sB, sC]
     refine tp 6 ⟨some 38, .move (.tmp 44), 36, "law.go:31", #[⟨5, .data⟩], none⟩ ?_
     try simp only [Act.put, sA, sB, sC]
     refine tp 7 ⟨some 45, .extract (.tmp 38) 0, 34, "law.go:31", #[⟨6, .data⟩], none⟩ ?_
     try simp only [Act.put, sA, sB, sC]
     refine tp 8 ⟨some 46, .extract (.tmp 38) 1, 35, "law.go:31", #[⟨6, .data⟩, ⟨10, .gcOnly .lateStores⟩], none⟩ ?_
     try simp only [Act.put, sA, sB, sC]
     refine tr 10 ⟨none, .store 34 (.tmp 8) (.tmp 45), 0, "law.go:31", #[⟨9, .data⟩, ⟨7, .data⟩, ⟨5, .chain⟩, ⟨0, .phase⟩, ⟨1, .phase⟩, ⟨2, .phase⟩, ⟨3, .phase⟩, ⟨4, .phase⟩, ⟨5, .phase⟩, ⟨6, .phase⟩, ⟨7, .phase⟩, ⟨8, .textOnly .lateStores⟩, ⟨9, .phase⟩], none⟩ (fun K hK => ?_)
     (first | (have zz : (1 : Nat) = 1 := FLAG; clear zz; go_simp) | (have cz := HA5.out.cell 0; have fz := HA5.out.frozen 0; go_simp))
     refine hK.out _ _ ?_ (fun hHeld => ?_)
     ·first | exact hd_alloc HM5 | exact hd_set HM5 HL5
     clear hK K
     try simp only [Act.put, sA, sB, sC]
     refine tp 11 ⟨some 9, .assign (.tmp 46), 35, "law.go:31", #[⟨8, .data⟩, ⟨10, .chain⟩, ⟨0, .phase⟩, ⟨1, .phase⟩, ⟨2, .phase⟩, ⟨3, .phase⟩, ⟨4, .phase⟩, ⟨5, .phase⟩, ⟨6, .phase⟩, ⟨7, .phase⟩, ⟨8, .phase⟩, ⟨9, .phase⟩, ⟨10, .phase⟩], none⟩ ?_
     try simp only [Act.put, sA, sB, sC]
     refine wpAnyH_done (by kernel_rfl) ?_ _
     (go_wp2; go_meet; first | exact ⟨_, _, _, rfl, rfl, dgv_new HU5, hd_alloc HM5⟩ | exact ⟨_, _, _, rfl, rfl, dgv_set HA5 HU5, hd_set HM5 HL5⟩)
   case rest =>
    obtain ⟨b8, a8, c8, rfl, rfl, HV8, hb7⟩ := hcut; rename World => W7
    have HE7 := Lib.hid (HE6.out.step hb7.out); have HV4 := Lib.hid (HV4'.out.step hb7.out); have HV6' := Lib.hid (HV6.out.step hb7.out); clear hb7 HE6 HZ6 HV4' HV6; go_upto_region 7 with (fail)
    go_cut [10, 11] (fun s10 s11 wx => ∃ b a c, s10 = .pointer (some ⟨b, 0, none⟩) /\ s11 = .int .i64 0 /\ Hid (DgV wx b noT a c) /\ Hid (Below W7.heap.size W7 wx))
    case first =>
     refine wp_region_held_drew (S := (fun w' : World => Hid (Below W7.heap.size W7 w'))) (by kernel_rfl) (Lib.hid (Below.refl W7.heap.size W7).drew) (fun hHeld => ?_); refine tk 1 ⟨some 49, .load 27 (.tmp 1), 27, "law.go:32", #[], none⟩ ?v7x1 ?y7x1 ?_
     case y7x1 => (intro w9 hSw; have y0 := (HE7.out.box.below hSw.out).cell 0; go_simp; try with_reducible rfl)
     try simp only [Act.put, sA, sB, sC]
     refine wpAnyH_ready (rs := [0, 6]) (by kernel_rfl) (by simp) ?_; refine AllReadyH.cons (o := ⟨some 48, .call { callee := .value (.func 35), args := #[.const (.string { data := #[97, 103, 101] }), .const (.int .i64 5), .const (.int .i64 150)], argTypes := #[9, 3, 3] }, 24, "law.go:32", #[], none⟩) rfl (fun K hK => ?_) (AllReadyH.cons (o := ⟨some 10, .alloc 34, 0, "law.go:32", #[], none⟩) rfl (fun K hK => ?_) AllReadyH.nil)
     ·skip
      (go_simp; go_at_call 35; refine (test_any _ _ _ _).mono ?_; rintro e w4 ⟨rfl, hb4⟩; have HM4 := hd_then (by assumption) hb4; first | (have HA4 : Hid (Blk w4 W7.heap.size _ _) := hd_newd hb4; have HL4 : Hid (W7.heap.size <= W7.heap.size) := Nat.le_refl _) | skip; clear hb4)
      refine hK.out _ _ ?_ (fun hHeld => ?_)
      ·exact HM4
      clear hK K
      try simp only [Act.put, sA, sB, sC]
      refine wpAnyH_ready (rs := [2, 6]) (by kernel_rfl) (by simp) ?_; refine AllReadyH.cons (o := ⟨some 50, .call { callee := .value (.func 12), args := #[.tmp 48, .tmp 49], argTypes := #[24, 27] }, 36, "law.go:32", #[⟨0, .data⟩, ⟨1, .data⟩, ⟨0, .chain⟩], none⟩) rfl (fun K hK => ?_) (AllReadyH.cons (o := ⟨some 10, .alloc 34, 0, "law.go:32", #[], none⟩) rfl (fun K hK => ?_) AllReadyH.nil)
      ·skip
       (go_simp; go_at_call 12; refine hd_leaf HE7 old_build (by constructor <;> decide) (by constructor <;> decide) (by decide) (by assumption) ?_; intro a5 c5 w5 HU5 hb5; have HM5 := hd_then (by assumption) hb5.out; first | (have HA5 := Lib.hid (HA4.out.below hb5.out); have HL5 := HL4; have FLAG : (0 : Nat) = 0 := rfl) | (have HA5 : Hid (Blk w5 w4.heap.size _ _) := hd_new hb5.out; have HL5 : Hid (W7.heap.size <= w4.heap.size) := HM4.out.size; have FLAG : (0 : Nat) = 0 := rfl) | have FLAG : (1 : Nat) = 1 := rfl; clear hb5)
       refine hK.out _ _ ?_ (fun hHeld => ?_)
       ·exact HM5
       clear hK K
       try simp only [Act.put, sA, sB, sC]
       refine tp 3 ⟨some 47, .move (.tmp 50), 36, "law.go:32", #[⟨2, .data⟩], none⟩ ?_
       try simp only [Act.put, sA, sB, sC]
       refine tp 4 ⟨some 51, .extract (.tmp 47) 0, 34, "law.go:32", #[⟨3, .data⟩], none⟩ ?_
       try simp only [Act.put, sA, sB, sC]
       refine tp 5 ⟨some 52, .extract (.tmp 47) 1, 35, "law.go:32", #[⟨3, .data⟩, ⟨7, .gcOnly .lateStores⟩], none⟩ ?_
       try simp only [Act.put, sA, sB, sC]
       refine tr 6 ⟨some 10, .alloc 34, 0, "law.go:32", #[], none⟩ (fun K hK => ?_)
       go_simp
       refine hK.out _ _ ?_ (fun hHeld => ?_)
       ·exact hd_alloc (by assumption)
       clear hK K
       try simp only [Act.put, sA, sB, sC]
       refine tr 7 ⟨none, .store 34 (.tmp 10) (.tmp 51), 0, "law.go:32", #[⟨6, .data⟩, ⟨4, .data⟩, ⟨2, .chain⟩, ⟨0, .phase⟩, ⟨1, .phase⟩, ⟨2, .phase⟩, ⟨3, .phase⟩, ⟨4, .phase⟩, ⟨5, .textOnly .lateStores⟩, ⟨6, .phase⟩], none⟩ (fun K hK => ?_)
       (first | (have zz : (1 : Nat) = 1 := FLAG; clear zz; go_simp) | (have cz := HA5.out.cell 0; have fz := HA5.out.frozen 0; go_simp))
       refine hK.out _ _ ?_ (fun hHeld => ?_)
       ·first | exact hd_alloc HM5 | exact hd_set HM5 HL5
       clear hK K
       try simp only [Act.put, sA, sB, sC]
       refine tp 8 ⟨some 11, .assign (.tmp 52), 35, "law.go:32", #[⟨5, .data⟩, ⟨7, .chain⟩, ⟨0, .phase⟩, ⟨1, .phase⟩, ⟨2, .phase⟩, ⟨3, .phase⟩, ⟨4, .phase⟩, ⟨5, .phase⟩, ⟨6, .phase⟩, ⟨7, .phase⟩], none⟩ ?_
       try simp only [Act.put, sA, sB, sC]
       refine wpAnyH_done (by kernel_rfl) ?_ _
       (go_wp2; go_meet; first | exact ⟨_, _, _, rfl, rfl, dgv_new HU5, hd_alloc HM5⟩ | exact ⟨_, _, _, rfl, rfl, dgv_set HA5 HU5, hd_set HM5 HL5⟩)
      ·skip
       go_simp
       refine hK.out _ _ ?_ (fun hHeld => ?_)
       ·exact hd_alloc (by assumption)
       clear hK K
       try simp only [Act.put, sA, sB, sC]
       refine tr 2 ⟨some 50, .call { callee := .value (.func 12), args := #[.tmp 48, .tmp 49], argTypes := #[24, 27] }, 36, "law.go:32", #[⟨0, .data⟩, ⟨1, .data⟩, ⟨0, .chain⟩], none⟩ (fun K hK => ?_)
       (go_simp; go_at_call 12; refine hd_leaf HE7 old_build (by constructor <;> decide) (by constructor <;> decide) (by decide) (by assumption) ?_; intro a5 c5 w5 HU5 hb5; have HM5 := hd_then (by assumption) hb5.out; first | (have HA5 := Lib.hid (HA4.out.below hb5.out); have HL5 := HL4; have FLAG : (0 : Nat) = 0 := rfl) | (have HA5 : Hid (Blk w5 w4.heap.size _ _) := hd_new hb5.out; have HL5 : Hid (W7.heap.size <= w4.heap.size) := HM4.out.size; have FLAG : (0 : Nat) = 0 := rfl) | have FLAG : (1 : Nat) = 1 := rfl; clear hb5)
       refine hK.out _ _ ?_ (fun hHeld => ?_)
       ·exact HM5
       clear hK K
       try simp only [Act.put, sA, sB, sC]
       refine tp 3 ⟨some 47, .move (.tmp 50), 36, "law.go:32", #[⟨2, .data⟩], none⟩ ?_
       try simp only [Act.put, sA, sB, sC]
       refine tp 4 ⟨some 51, .extract (.tmp 47) 0, 34, "law.go:32", #[⟨3, .data⟩], none⟩ ?_
       try simp only [Act.put, sA, sB, sC]
       refine tp 5 ⟨some 52, .extract (.tmp 47) 1, 35, "law.go:32", #[⟨3, .data⟩, ⟨7, .gcOnly .lateStores⟩], none⟩ ?_
       try simp only [Act.put, sA, sB, sC]
       refine tr 7 ⟨none, .store 34 (.tmp 10) (.tmp 51), 0, "law.go:32", #[⟨6, .data⟩, ⟨4, .data⟩, ⟨2, .chain⟩, ⟨0, .phase⟩, ⟨1, .phase⟩, ⟨2, .phase⟩, ⟨3, .phase⟩, ⟨4, .phase⟩, ⟨5, .textOnly .lateStores⟩, ⟨6, .phase⟩], none⟩ (fun K hK => ?_)
       (first | (have zz : (1 : Nat) = 1 := FLAG; clear zz; go_simp) | (have cz := HA5.out.cell 0; have fz := HA5.out.frozen 0; go_simp))
       refine hK.out _ _ ?_ (fun hHeld => ?_)
       ·first | exact hd_alloc HM5 | exact hd_set HM5 HL5
       clear hK K
       try simp only [Act.put, sA, sB, sC]
       refine tp 8 ⟨some 11, .assign (.tmp 52), 35, "law.go:32", #[⟨5, .data⟩, ⟨7, .chain⟩, ⟨0, .phase⟩, ⟨1, .phase⟩, ⟨2, .phase⟩, ⟨3, .phase⟩, ⟨4, .phase⟩, ⟨5, .phase⟩, ⟨6, .phase⟩, ⟨7, .phase⟩], none⟩ ?_
       try simp only [Act.put, sA, sB, sC]
       refine wpAnyH_done (by kernel_rfl) ?_ _
       (go_wp2; go_meet; first | exact ⟨_, _, _, rfl, rfl, dgv_new HU5, hd_alloc HM5⟩ | exact ⟨_, _, _, rfl, rfl, dgv_set HA5 HU5, hd_set HM5 HL5⟩)
     ·skip
      go_simp
      refine hK.out _ _ ?_ (fun hHeld => ?_)
      ·exact hd_alloc (by assumption)
      clear hK K
      try simp only [Act.put, sA, sB, sC]
      refine tr 0 ⟨some 48, .call { callee := .value (.func 35), args := #[.const (.string { data := #[97, 103, 101] }), .const (.int .i64 5), .const (.int .i64 150)], argTypes := #[9, 3, 3] }, 24, "law.go:32", #[], none⟩ (fun K hK => ?_)
      (go_simp; go_at_call 35; refine (test_any _ _ _ _).mono ?_; rintro e w4 ⟨rfl, hb4⟩; have HM4 := hd_then (by assumption) hb4; first | (have HA4 : Hid (Blk w4 W7.heap.size _ _) := hd_newd hb4; have HL4 : Hid (W7.heap.size <= W7.heap.size) := Nat.le_refl _) | skip; clear hb4)
      refine hK.out _ _ ?_ (fun hHeld => ?_)
      ·exact HM4
      clear hK K
      try simp only [Act.put, sA, sB, sC]
      refine tr 2 ⟨some 50, .call { callee := .value (.func 12), args := #[.tmp 48, .tmp 49], argTypes := #[24, 27] }, 36, "law.go:32", #[⟨0, .data⟩, ⟨1, .data⟩, ⟨0, .chain⟩], none⟩ (fun K hK => ?_)
      (go_simp; go_at_call 12; refine hd_leaf HE7 old_build (by constructor <;> decide) (by constructor <;> decide) (by decide) (by assumption) ?_; intro a5 c5 w5 HU5 hb5; have HM5 := hd_then (by assumption) hb5.out; first | (have HA5 := Lib.hid (HA4.out.below hb5.out); have HL5 := HL4; have FLAG : (0 : Nat) = 0 := rfl) | (have HA5 : Hid (Blk w5 w4.heap.size _ _) := hd_new hb5.out; have HL5 : Hid (W7.heap.size <= w4.heap.size) := HM4.out.size; have FLAG : (0 : Nat) = 0 := rfl) | have FLAG : (1 : Nat) = 1 := rfl; clear hb5)
      refine hK.out _ _ ?_ (fun hHeld => ?_)
      ·exact HM5
      clear hK K
      try simp only [Act.put, sA, sB, sC]
      refine tp 3 ⟨some 47, .move (.tmp 50), 36, "law.go:32", #[⟨2, .data⟩], none⟩ ?_
      try simp only [Act.put, sA, sB, sC]
      refine tp 4 ⟨some 51, .extract (.tmp 47) 0, 34, "law.go:32", #[⟨3, .data⟩], none⟩ ?_
      try simp only [Act.put, sA, sB, sC]
      refine tp 5 ⟨some 52, .extract (.tmp 47) 1, 35, "law.go:32", #[⟨3, .data⟩, ⟨7, .gcOnly .lateStores⟩], none⟩ ?_
      try simp only [Act.put, sA, sB, sC]
      refine tr 7 ⟨none, .store 34 (.tmp 10) (.tmp 51), 0, "law.go:32", #[⟨6, .data⟩, ⟨4, .data⟩, ⟨2, .chain⟩, ⟨0, .phase⟩, ⟨1, .phase⟩, ⟨2, .phase⟩, ⟨3, .phase⟩, ⟨4, .phase⟩, ⟨5, .textOnly .lateStores⟩, ⟨6, .phase⟩], none⟩ (fun K hK => ?_)
      (first | (have zz : (1 : Nat) = 1 := FLAG; clear zz; go_simp) | (have cz := HA5.out.cell 0; have fz := HA5.out.frozen 0; go_simp))
      refine hK.out _ _ ?_ (fun hHeld => ?_)
      ·first | exact hd_alloc HM5 | exact hd_set HM5 HL5
      clear hK K
      try simp only [Act.put, sA, sB, sC]
      refine tp 8 ⟨some 11, .assign (.tmp 52), 35, "law.go:32", #[⟨5, .data⟩, ⟨7, .chain⟩, ⟨0, .phase⟩, ⟨1, .phase⟩, ⟨2, .phase⟩, ⟨3, .phase⟩, ⟨4, .phase⟩, ⟨5, .phase⟩, ⟨6, .phase⟩, ⟨7, .phase⟩], none⟩ ?_
      try simp only [Act.put, sA, sB, sC]
      refine wpAnyH_done (by kernel_rfl) ?_ _
      (go_wp2; go_meet; first | exact ⟨_, _, _, rfl, rfl, dgv_new HU5, hd_alloc HM5⟩ | exact ⟨_, _, _, rfl, rfl, dgv_set HA5 HU5, hd_set HM5 HL5⟩)
    case rest =>
     obtain ⟨b10, a10, c10, rfl, rfl, HV10, hb8⟩ := hcut; rename World => W8
     have HE8 := Lib.hid (HE7.out.step hb8.out); have HV4' := Lib.hid (HV4.out.step hb8.out); have HV6 := Lib.hid (HV6'.out.step hb8.out); have HV8' := Lib.hid (HV8.out.step hb8.out); clear hb8 HE7 HV4 HV6' HV8; go_upto_region 8 with (fail)
     go_cut [12, 13] (fun s12 s13 wx => ∃ b a c, s12 = .pointer (some ⟨b, 0, none⟩) /\ s13 = .int .i64 1 /\ Hid (DgV wx b [] a c) /\ Hid (Below W8.heap.size W8 wx))
     case first =>
      refine wp_region_held_drew (S := (fun w' : World => Hid (Below W8.heap.size W8 w'))) (by kernel_rfl) (Lib.hid (Below.refl W8.heap.size W8).drew) (fun hHeld => ?_); refine tk 1 ⟨some 55, .load 27 (.tmp 1), 27, "law.go:33", #[], none⟩ ?v8x1 ?y8x1 ?_
      case y8x1 => (intro w9 hSw; have y0 := (HE8.out.box.below hSw.out).cell 0; go_simp; try with_reducible rfl)
      try simp only [Act.put, sA, sB, sC]
      refine wpAnyH_ready (rs := [0, 6]) (by kernel_rfl) (by simp) ?_; refine AllReadyH.cons (o := ⟨some 54, .call { callee := .value (.func 35), args := #[.const (.string { data := #[116, 97, 120] }), .const (.int .i64 5), .const (.int .i64 150)], argTypes := #[9, 3, 3] }, 24, "law.go:33", #[], none⟩) rfl (fun K hK => ?_) (AllReadyH.cons (o := ⟨some 12, .alloc 34, 0, "law.go:33", #[], none⟩) rfl (fun K hK => ?_) AllReadyH.nil)
      ·skip
       (go_simp; go_at_call 35; refine (test_any _ _ _ _).mono ?_; rintro e w4 ⟨rfl, hb4⟩; have HM4 := hd_then (by assumption) hb4; first | (have HA4 : Hid (Blk w4 W8.heap.size _ _) := hd_newd hb4; have HL4 : Hid (W8.heap.size <= W8.heap.size) := Nat.le_refl _) | skip; clear hb4)
       refine hK.out _ _ ?_ (fun hHeld => ?_)
       ·exact HM4
       clear hK K
       try simp only [Act.put, sA, sB, sC]
       refine wpAnyH_ready (rs := [2, 6]) (by kernel_rfl) (by simp) ?_; refine AllReadyH.cons (o := ⟨some 56, .call { callee := .value (.func 12), args := #[.tmp 54, .tmp 55], argTypes := #[24, 27] }, 36, "law.go:33", #[⟨0, .data⟩, ⟨1, .data⟩, ⟨0, .chain⟩], none⟩) rfl (fun K hK => ?_) (AllReadyH.cons (o := ⟨some 12, .alloc 34, 0, "law.go:33", #[], none⟩) rfl (fun K hK => ?_) AllReadyH.nil)
       ·skip
        (go_simp; go_at_call 12; refine hd_leaf HE8 tax_build (by constructor <;> decide) (by constructor <;> decide) (by decide) (by assumption) ?_; intro a5 c5 w5 HU5 hb5; have HM5 := hd_then (by assumption) hb5.out; first | (have HA5 := Lib.hid (HA4.out.below hb5.out); have HL5 := HL4; have FLAG : (0 : Nat) = 0 := rfl) | (have HA5 : Hid (Blk w5 w4.heap.size _ _) := hd_new hb5.out; have HL5 : Hid (W8.heap.size <= w4.heap.size) := HM4.out.size; have FLAG : (0 : Nat) = 0 := rfl) | have FLAG : (1 : Nat) = 1 := rfl; clear hb5)
        refine hK.out _ _ ?_ (fun hHeld => ?_)
        ·exact HM5
        clear hK K
        try simp only [Act.put, sA, sB, sC]
        refine tp 3 ⟨some 53, .move (.tmp 56), 36, "law.go:33", #[⟨2, .data⟩], none⟩ ?_
        try simp only [Act.put, sA, sB, sC]
        refine tp 4 ⟨some 57, .extract (.tmp 53) 0, 34, "law.go:33", #[⟨3, .data⟩], none⟩ ?_
        try simp only [Act.put, sA, sB, sC]
        refine tp 5 ⟨some 58, .extract (.tmp 53) 1, 35, "law.go:33", #[⟨3, .data⟩, ⟨7, .gcOnly .lateStores⟩], none⟩ ?_
        try simp only [Act.put, sA, sB, sC]
        refine tr 6 ⟨some 12, .alloc 34, 0, "law.go:33", #[], none⟩ (fun K hK => ?_)
        go_simp
        refine hK.out _ _ ?_ (fun hHeld => ?_)
        ·exact hd_alloc (by assumption)
        clear hK K
        try simp only [Act.put, sA, sB, sC]
        refine tr 7 ⟨none, .store 34 (.tmp 12) (.tmp 57), 0, "law.go:33", #[⟨6, .data⟩, ⟨4, .data⟩, ⟨2, .chain⟩, ⟨0, .phase⟩, ⟨1, .phase⟩, ⟨2, .phase⟩, ⟨3, .phase⟩, ⟨4, .phase⟩, ⟨5, .textOnly .lateStores⟩, ⟨6, .phase⟩], none⟩ (fun K hK => ?_)
        (first | (have zz : (1 : Nat) = 1 := FLAG; clear zz; go_simp) | (have cz := HA5.out.cell 0; have fz := HA5.out.frozen 0; go_simp))
        refine hK.out _ _ ?_ (fun hHeld => ?_)
        ·first | exact hd_alloc HM5 | exact hd_set HM5 HL5
        clear hK K
        try simp only [Act.put, sA, sB, sC]
        refine tp 8 ⟨some 13, .assign (.tmp 58), 35, "law.go:33", #[⟨5, .data⟩, ⟨7, .chain⟩, ⟨0, .phase⟩, ⟨1, .phase⟩, ⟨2, .phase⟩, ⟨3, .phase⟩, ⟨4, .phase⟩, ⟨5, .phase⟩, ⟨6, .phase⟩, ⟨7, .phase⟩], none⟩ ?_
        try simp only [Act.put, sA, sB, sC]
        refine wpAnyH_done (by kernel_rfl) ?_ _
        (go_wp2; go_meet; first | exact ⟨_, _, _, rfl, rfl, dgv_new HU5, hd_alloc HM5⟩ | exact ⟨_, _, _, rfl, rfl, dgv_set HA5 HU5, hd_set HM5 HL5⟩)
       ·skip
        go_simp
        refine hK.out _ _ ?_ (fun hHeld => ?_)
        ·exact hd_alloc (by assumption)
        clear hK K
        try simp only [Act.put, sA, sB, sC]
        refine tr 2 ⟨some 56, .call { callee := .value (.func 12), args := #[.tmp 54, .tmp 55], argTypes := #[24, 27] }, 36, "law.go:33", #[⟨0, .data⟩, ⟨1, .data⟩, ⟨0, .chain⟩], none⟩ (fun K hK => ?_)
        (go_simp; go_at_call 12; refine hd_leaf HE8 tax_build (by constructor <;> decide) (by constructor <;> decide) (by decide) (by assumption) ?_; intro a5 c5 w5 HU5 hb5; have HM5 := hd_then (by assumption) hb5.out; first | (have HA5 := Lib.hid (HA4.out.below hb5.out); have HL5 := HL4; have FLAG : (0 : Nat) = 0 := rfl) | (have HA5 : Hid (Blk w5 w4.heap.size _ _) := hd_new hb5.out; have HL5 : Hid (W8.heap.size <= w4.heap.size) := HM4.out.size; have FLAG : (0 : Nat) = 0 := rfl) | have FLAG : (1 : Nat) = 1 := rfl; clear hb5)
        refine hK.out _ _ ?_ (fun hHeld => ?_)
        ·exact HM5
        clear hK K
        try simp only [Act.put, sA, sB, sC]
        refine tp 3 ⟨some 53, .move (.tmp 56), 36, "law.go:33", #[⟨2, .data⟩], none⟩ ?_
        try simp only [Act.put, sA, sB, sC]
        refine tp 4 ⟨some 57, .extract (.tmp 53) 0, 34, "law.go:33", #[⟨3, .data⟩], none⟩ ?_
        try simp only [Act.put, sA, sB, sC]
        refine tp 5 ⟨some 58, .extract (.tmp 53) 1, 35, "law.go:33", #[⟨3, .data⟩, ⟨7, .gcOnly .lateStores⟩], none⟩ ?_
        try simp only [Act.put, sA, sB, sC]
        refine tr 7 ⟨none, .store 34 (.tmp 12) (.tmp 57), 0, "law.go:33", #[⟨6, .data⟩, ⟨4, .data⟩, ⟨2, .chain⟩, ⟨0, .phase⟩, ⟨1, .phase⟩, ⟨2, .phase⟩, ⟨3, .phase⟩, ⟨4, .phase⟩, ⟨5, .textOnly .lateStores⟩, ⟨6, .phase⟩], none⟩ (fun K hK => ?_)
        (first | (have zz : (1 : Nat) = 1 := FLAG; clear zz; go_simp) | (have cz := HA5.out.cell 0; have fz := HA5.out.frozen 0; go_simp))
        refine hK.out _ _ ?_ (fun hHeld => ?_)
        ·first | exact hd_alloc HM5 | exact hd_set HM5 HL5
        clear hK K
        try simp only [Act.put, sA, sB, sC]
        refine tp 8 ⟨some 13, .assign (.tmp 58), 35, "law.go:33", #[⟨5, .data⟩, ⟨7, .chain⟩, ⟨0, .phase⟩, ⟨1, .phase⟩, ⟨2, .phase⟩, ⟨3, .phase⟩, ⟨4, .phase⟩, ⟨5, .phase⟩, ⟨6, .phase⟩, ⟨7, .phase⟩], none⟩ ?_
        try simp only [Act.put, sA, sB, sC]
        refine wpAnyH_done (by kernel_rfl) ?_ _
        (go_wp2; go_meet; first | exact ⟨_, _, _, rfl, rfl, dgv_new HU5, hd_alloc HM5⟩ | exact ⟨_, _, _, rfl, rfl, dgv_set HA5 HU5, hd_set HM5 HL5⟩)
      ·skip
       go_simp
       refine hK.out _ _ ?_ (fun hHeld => ?_)
       ·exact hd_alloc (by assumption)
       clear hK K
       try simp only [Act.put, sA, sB, sC]
       refine tr 0 ⟨some 54, .call { callee := .value (.func 35), args := #[.const (.string { data := #[116, 97, 120] }), .const (.int .i64 5), .const (.int .i64 150)], argTypes := #[9, 3, 3] }, 24, "law.go:33", #[], none⟩ (fun K hK => ?_)
       (go_simp; go_at_call 35; refine (test_any _ _ _ _).mono ?_; rintro e w4 ⟨rfl, hb4⟩; have HM4 := hd_then (by assumption) hb4; first | (have HA4 : Hid (Blk w4 W8.heap.size _ _) := hd_newd hb4; have HL4 : Hid (W8.heap.size <= W8.heap.size) := Nat.le_refl _) | skip; clear hb4)
       refine hK.out _ _ ?_ (fun hHeld => ?_)
       ·exact HM4
       clear hK K
       try simp only [Act.put, sA, sB, sC]
       refine tr 2 ⟨some 56, .call { callee := .value (.func 12), args := #[.tmp 54, .tmp 55], argTypes := #[24, 27] }, 36, "law.go:33", #[⟨0, .data⟩, ⟨1, .data⟩, ⟨0, .chain⟩], none⟩ (fun K hK => ?_)
       (go_simp; go_at_call 12; refine hd_leaf HE8 tax_build (by constructor <;> decide) (by constructor <;> decide) (by decide) (by assumption) ?_; intro a5 c5 w5 HU5 hb5; have HM5 := hd_then (by assumption) hb5.out; first | (have HA5 := Lib.hid (HA4.out.below hb5.out); have HL5 := HL4; have FLAG : (0 : Nat) = 0 := rfl) | (have HA5 : Hid (Blk w5 w4.heap.size _ _) := hd_new hb5.out; have HL5 : Hid (W8.heap.size <= w4.heap.size) := HM4.out.size; have FLAG : (0 : Nat) = 0 := rfl) | have FLAG : (1 : Nat) = 1 := rfl; clear hb5)
       refine hK.out _ _ ?_ (fun hHeld => ?_)
       ·exact HM5
       clear hK K
       try simp only [Act.put, sA, sB, sC]
       refine tp 3 ⟨some 53, .move (.tmp 56), 36, "law.go:33", #[⟨2, .data⟩], none⟩ ?_
       try simp only [Act.put, sA, sB, sC]
       refine tp 4 ⟨some 57, .extract (.tmp 53) 0, 34, "law.go:33", #[⟨3, .data⟩], none⟩ ?_
       try simp only [Act.put, sA, sB, sC]
       refine tp 5 ⟨some 58, .extract (.tmp 53) 1, 35, "law.go:33", #[⟨3, .data⟩, ⟨7, .gcOnly .lateStores⟩], none⟩ ?_
       try simp only [Act.put, sA, sB, sC]
       refine tr 7 ⟨none, .store 34 (.tmp 12) (.tmp 57), 0, "law.go:33", #[⟨6, .data⟩, ⟨4, .data⟩, ⟨2, .chain⟩, ⟨0, .phase⟩, ⟨1, .phase⟩, ⟨2, .phase⟩, ⟨3, .phase⟩, ⟨4, .phase⟩, ⟨5, .textOnly .lateStores⟩, ⟨6, .phase⟩], none⟩ (fun K hK => ?_)
       (first | (have zz : (1 : Nat) = 1 := FLAG; clear zz; go_simp) | (have cz := HA5.out.cell 0; have fz := HA5.out.frozen 0; go_simp))
       refine hK.out _ _ ?_ (fun hHeld => ?_)
       ·first | exact hd_alloc HM5 | exact hd_set HM5 HL5
       clear hK K
       try simp only [Act.put, sA, sB, sC]
       refine tp 8 ⟨some 13, .assign (.tmp 58), 35, "law.go:33", #[⟨5, .data⟩, ⟨7, .chain⟩, ⟨0, .phase⟩, ⟨1, .phase⟩, ⟨2, .phase⟩, ⟨3, .phase⟩, ⟨4, .phase⟩, ⟨5, .phase⟩, ⟨6, .phase⟩, ⟨7, .phase⟩], none⟩ ?_
       try simp only [Act.put, sA, sB, sC]
       refine wpAnyH_done (by kernel_rfl) ?_ _
       (go_wp2; go_meet; first | exact ⟨_, _, _, rfl, rfl, dgv_new HU5, hd_alloc HM5⟩ | exact ⟨_, _, _, rfl, rfl, dgv_set HA5 HU5, hd_set HM5 HL5⟩)
     case rest =>
      obtain ⟨b12, a12, c12, rfl, rfl, HV12, hb9⟩ := hcut; rename World => W9
      have HE9 := Lib.hid (HE8.out.step hb9.out); have HV4 := Lib.hid (HV4'.out.step hb9.out); have HV6' := Lib.hid (HV6.out.step hb9.out); have HV8 := Lib.hid (HV8'.out.step hb9.out); have HV10' := Lib.hid (HV10.out.step hb9.out); clear hb9 HE8 HV4' HV6 HV8' HV10 HV12; go_upto_region 12 with (fail); obtain ⟨hbL, k14, d14, k15, d15, k16, d16⟩ := lits W9; obtain ⟨WL, hWL⟩ : ∃ x, ((((((((((W9.alloc (.cells #[.int .i64 18] 3)).alloc (.cells #[.int .i64 1, .int .i64 2] 3)).alloc (.cells #[.int .i64 1] 3)).alloc (.cells #[.int .i64 1, .int .i64 3] 3)).alloc (.cells #[.int .i64 0, .slice (some ⟨W9.heap.size, 0, none⟩) 1 1, .slice (some ⟨W9.heap.size + 1, 0, none⟩) 2 2, .bool false, .int .i64 0, .slice none 0 0, .slice none 0 0, .bool false, .int .i64 1, .slice (some ⟨W9.heap.size + 1 + 1, 0, none⟩) 1 1, .slice (some ⟨W9.heap.size + 1 + 1 + 1, 0, none⟩) 2 2, .bool false, .int .i64 0, .slice none 0 0, .slice none 0 0, .bool true] 56)).alloc (.cells #[.slice (some ⟨W9.heap.size + 1 + 1 + 1 + 1, 0, none⟩) 4 4] 34)).alloc (.cells #[.int .i64 0, .slice none 0 0, .slice none 0 0, .bool true] 56)).alloc (.cells #[.slice (some ⟨W9.heap.size + 1 + 1 + 1 + 1 + 1 + 1, 0, none⟩) 1 1] 34)).alloc (.cells #[.int .i64 0, .slice none 0 0, .slice none 0 0, .bool false] 56)).alloc (.cells #[.slice (some ⟨W9.heap.size + 1 + 1 + 1 + 1 + 1 + 1 + 1 + 1, 0, none⟩) 1 1] 34)) = x := ⟨_, rfl⟩; rw [hWL] at hbL k14 d14 k15 d15 k16 d16; have HWL := Lib.hid hWL; have HEL := Lib.hid (HE9.out.step hbL); have HV4' := Lib.hid (HV4.out.step hbL); have HV6 := Lib.hid (HV6'.out.step hbL); have HV8' := Lib.hid (HV8.out.step hbL); have HV10 := Lib.hid (HV10'.out.step hbL); have HV14 : Hid (DgV WL (W9.heap.size + 1 + 1 + 1 + 1 + 1) wantT (some ⟨W9.heap.size + 1 + 1 + 1 + 1, 0, none⟩) 4) := ⟨k14, d14⟩; have HV15 : Hid (DgV WL (W9.heap.size + 1 + 1 + 1 + 1 + 1 + 1 + 1) yesT (some ⟨W9.heap.size + 1 + 1 + 1 + 1 + 1 + 1, 0, none⟩) 1) := ⟨k15, d15⟩; have HV16 : Hid (DgV WL (W9.heap.size + 1 + 1 + 1 + 1 + 1 + 1 + 1 + 1 + 1) noT (some ⟨W9.heap.size + 1 + 1 + 1 + 1 + 1 + 1 + 1 + 1, 0, none⟩) 1) := ⟨k16, d16⟩; clear HE9 HV4 HV6' HV8 HV10' hbL k14 d14 k15 d15 k16 d16 hWL
      change Code.wp _ _ _ _ ((((((((((W9.alloc (.cells #[.int .i64 18] 3)).alloc (.cells #[.int .i64 1, .int .i64 2] 3)).alloc (.cells #[.int .i64 1] 3)).alloc (.cells #[.int .i64 1, .int .i64 3] 3)).alloc (.cells #[.int .i64 0, .slice (some ⟨W9.heap.size, 0, none⟩) 1 1, .slice (some ⟨W9.heap.size + 1, 0, none⟩) 2 2, .bool false, .int .i64 0, .slice none 0 0, .slice none 0 0, .bool false, .int .i64 1, .slice (some ⟨W9.heap.size + 1 + 1, 0, none⟩) 1 1, .slice (some ⟨W9.heap.size + 1 + 1 + 1, 0, none⟩) 2 2, .bool false, .int .i64 0, .slice none 0 0, .slice none 0 0, .bool true] 56)).alloc (.cells #[.slice (some ⟨W9.heap.size + 1 + 1 + 1 + 1, 0, none⟩) 4 4] 34)).alloc (.cells #[.int .i64 0, .slice none 0 0, .slice none 0 0, .bool true] 56)).alloc (.cells #[.slice (some ⟨W9.heap.size + 1 + 1 + 1 + 1 + 1 + 1, 0, none⟩) 1 1] 34)).alloc (.cells #[.int .i64 0, .slice none 0 0, .slice none 0 0, .bool false] 56)).alloc (.cells #[.slice (some ⟨W9.heap.size + 1 + 1 + 1 + 1 + 1 + 1 + 1 + 1, 0, none⟩) 1 1] 34))
      rw [HWL.out]; clear HWL; generalize (some ⟨W9.heap.size + 1 + 1 + 1 + 1, 0, none⟩ : Option Addr) = a14 at *
      generalize (some ⟨W9.heap.size + 1 + 1 + 1 + 1 + 1 + 1, 0, none⟩ : Option Addr) = a15 at *
      generalize (some ⟨W9.heap.size + 1 + 1 + 1 + 1 + 1 + 1 + 1 + 1, 0, none⟩ : Option Addr) = a16 at *
      generalize W9.heap.size + 1 + 1 + 1 + 1 + 1 + 1 + 1 + 1 + 1 = b16 at *
      generalize W9.heap.size + 1 + 1 + 1 + 1 + 1 + 1 + 1 = b15 at *
      generalize W9.heap.size + 1 + 1 + 1 + 1 + 1 = b14 at *
      have x4 := HV4'.out.box.cell 0; have x1 := HEL.out.box.cell 0; have HLS := Lib.hid (hd_least HEL HV4'); go_upto_region 13 with (go_at_call 20; refine HLS.out.mono ?_; rintro e wA ⟨x17, k17, rfl, HC, HBA⟩); clear HLS; have HEA := Lib.hid (HEL.out.step HBA.out); have HV4 := Lib.hid (HV4'.out.step HBA.out); have HV6' := Lib.hid (HV6.out.step HBA.out); have HV8 := Lib.hid (HV8'.out.step HBA.out); have HV10' := Lib.hid (HV10.out.step HBA.out); have HV14' := Lib.hid (HV14.out.step HBA.out); have HV15' := Lib.hid (HV15.out.step HBA.out); have HV16' := Lib.hid (HV16.out.step HBA.out)
      have HCL : Hid (∀ w', Below wA.heap.size wA w' -> w'.cell? ⟨b1, 0, none⟩ = some (.slice (some ⟨db, 0, none⟩) 2 2) /\ w'.cell? ⟨b4, 0, none⟩ = some (.slice a4 wantT.length c4) /\ w'.cell? ⟨b6, 0, none⟩ = some (.slice a6 yesT.length c6) /\ w'.cell? ⟨b8, 0, none⟩ = some (.slice a8 yesT.length c8) /\ w'.cell? ⟨b10, 0, none⟩ = some (.slice a10 noT.length c10) /\
        w'.cell? ⟨b14, 0, none⟩ = some (.slice a14 wantT.length 4) /\ w'.cell? ⟨b15, 0, none⟩ = some (.slice a15 yesT.length 1) /\ w'.cell? ⟨b16, 0, none⟩ = some (.slice a16 noT.length 1)) := fun w' hb =>
       ⟨(HEA.out.box.below hb).cell 0, (HV4.out.box.below hb).cell 0, (HV6'.out.box.below hb).cell 0, (HV8.out.box.below hb).cell 0, (HV10'.out.box.below hb).cell 0, (HV14'.out.box.below hb).cell 0, (HV15'.out.box.below hb).cell 0, (HV16'.out.box.below hb).cell 0⟩
      clear HEL HV4' HV6 HV8' HV10 HV14 HV15 HV16 HBA x4 x1; have HB0 : Hid (Below wA.heap.size wA wA) := Below.refl _ _; obtain ⟨y1, y4, y6, y8, y10, y14, y15, y16⟩ := HCL.out wA HB0.out; have HS4 : Hid (∀ w', Below wA.heap.size wA w' -> Calls Tryz.prog 27 #[.agg #[.slice a4 wantT.length c4], .agg #[.slice a14 wantT.length 4]] w' fun e w'' => e = .returned (.bool true) /\ Hid (Below wA.heap.size wA w'')) := fun w' hb => hd_same HV4 HV14' hb
      have HS6 : Hid (∀ w', Below wA.heap.size wA w' -> Calls Tryz.prog 27 #[.agg #[.slice a6 yesT.length c6], .agg #[.slice a15 yesT.length 1]] w' fun e w'' => e = .returned (.bool true) /\ Hid (Below wA.heap.size wA w'')) := fun w' hb => hd_same HV6' HV15' hb
      have HS8 : Hid (∀ w', Below wA.heap.size wA w' -> Calls Tryz.prog 27 #[.agg #[.slice a8 yesT.length c8], .agg #[.slice a15 yesT.length 1]] w' fun e w'' => e = .returned (.bool true) /\ Hid (Below wA.heap.size wA w'')) := fun w' hb => hd_same HV8 HV15' hb
      have HS10 : Hid (∀ w', Below wA.heap.size wA w' -> Calls Tryz.prog 27 #[.agg #[.slice a10 noT.length c10], .agg #[.slice a16 noT.length 1]] w' fun e w'' => e = .returned (.bool true) /\ Hid (Below wA.heap.size wA w'')) := fun w' hb => hd_same HV10' HV16' hb
      have HQ6 : Hid (∀ w', Below wA.heap.size wA w' -> Calls Tryz.prog 28 #[.slice x17 2 k17, .slice (some ⟨w'.heap.size, 0, none⟩) 2 2] (w'.alloc (.cells #[.int .i64 18, .int .i64 1] 3)) fun e w'' => e = .returned (.bool true) /\ Hid (Below wA.heap.size wA w'')) := fun w' hb => hd_eq6 HC hb
      have HH1 : Hid (∀ w', Below wA.heap.size wA w' -> Calls Tryz.prog 17 #[.agg #[.slice a4 wantT.length c4], .slice (some ⟨w'.heap.size, 0, none⟩) 2 2] (w'.alloc (.cells #[.int .i64 20, .int .i64 1] 3)) fun e w'' => e = .returned (.bool true) /\ Hid (Below wA.heap.size wA w'')) := fun w' hb => hd_holds HV4 hb want_w1
      have HH0 : Hid (∀ w', Below wA.heap.size wA w' -> Calls Tryz.prog 17 #[.agg #[.slice a4 wantT.length c4], .slice (some ⟨w'.heap.size, 0, none⟩) 2 2] (w'.alloc (.cells #[.int .i64 20, .int .i64 0] 3)) fun e w'' => e = .returned (.bool false) /\ Hid (Below wA.heap.size wA w'')) := fun w' hb => hd_holds HV4 hb want_w0
      have HVA : Hid (∀ w', Below wA.heap.size wA w' -> Calls Tryz.prog 15 #[.agg #[.slice a4 wantT.length c4], .agg #[.slice (some ⟨db, 0, none⟩) 2 2]] w' fun e w'' => e = .returned (.bool true) /\ Hid (Below wA.heap.size wA w'')) := fun w' hb => hd_valid HEA HV4 hb
      have HNI : Hid (∀ w', Below wA.heap.size wA w' -> Calls Tryz.prog 15 #[.agg #[.slice none 0 0], .agg #[.slice (some ⟨db, 0, none⟩) 2 2]] w' fun e w'' => e = .returned (.bool false) /\ Hid (Below wA.heap.size wA w'')) := fun w' hb => hd_nil HEA hb
      clear HV6' HV8 HV10' HV14' HV15' HV16'; clear HV4; generalize wantT.length = l4 at *
      generalize yesT.length = l6 at *
      generalize noT.length = l10 at *
      go_upto_region 14 with (first | (go_at_call_of 27 a4; refine (HS4.out _ HB0.out).mono ?_; rintro e wB ⟨rfl, HB1⟩; clear y1 y4 y6 y8 y10 y14 y15 y16; obtain ⟨y1, y4, y6, y8, y10, y14, y15, y16⟩ := HCL.out _ HB1.out) | (go_at_call_of 27 a6; refine (HS6.out _ HB1.out).mono ?_; rintro e wC ⟨rfl, HB2⟩; clear y1 y4 y6 y8 y10 y14 y15 y16; obtain ⟨y1, y4, y6, y8, y10, y14, y15, y16⟩ := HCL.out _ HB2.out) | (go_at_call_of 27 a8; refine (HS8.out _ HB2.out).mono ?_; rintro e wD ⟨rfl, HB3⟩; clear y1 y4 y6 y8 y10 y14 y15 y16; obtain ⟨y1, y4, y6, y8, y10, y14, y15, y16⟩ := HCL.out _ HB3.out) | (go_at_call_of 27 a10; refine (HS10.out _ HB3.out).mono ?_; rintro e wE ⟨rfl, HB4⟩; clear y1 y4 y6 y8 y10 y14 y15 y16; obtain ⟨y1, y4, y6, y8, y10, y14, y15, y16⟩ := HCL.out _ HB4.out)); go_wp2_with (first | (go_at_call 28; refine (HQ6.out _ HB4.out).mono ?_; rintro e wF ⟨rfl, HB5⟩; clear y1 y4 y6 y8 y10 y14 y15 y16; obtain ⟨y1, y4, y6, y8, y10, y14, y15, y16⟩ := HCL.out _ HB5.out) | (go_at_call_of 17 wF; refine (HH1.out _ HB5.out).mono ?_; rintro e wG ⟨rfl, HB6⟩; clear y1 y4 y6 y8 y10 y14 y15 y16; obtain ⟨y1, y4, y6, y8, y10, y14, y15, y16⟩ := HCL.out _ HB6.out) | (go_at_call_of 17 wG; refine (HH0.out _ HB6.out).mono ?_; rintro e wH ⟨rfl, HB7⟩; clear y1 y4 y6 y8 y10 y14 y15 y16; obtain ⟨y1, y4, y6, y8, y10, y14, y15, y16⟩ := HCL.out _ HB7.out) | (go_at_call_of 15 a4; refine (HVA.out _ HB7.out).mono ?_; rintro e wI ⟨rfl, HB8⟩; clear y1 y4 y6 y8 y10 y14 y15 y16; obtain ⟨y1, y4, y6, y8, y10, y14, y15, y16⟩ := HCL.out _ HB8.out) | (go_at_call 15; refine (HNI.out _ HB8.out).mono ?_; rintro e wJ ⟨rfl, HB9⟩; clear y1 y4 y6 y8 y10 y14 y15 y16; obtain ⟨y1, y4, y6, y8, y10, y14, y15, y16⟩ := HCL.out _ HB9.out)); refine bodyPost_ret (by simp [results, Tryz.results10, go_sem]; try rfl) rfl ?_; exact ⟨rfl, HEA.out.low.trans (HB9.out.mono HEA.out.low.size)⟩
end Go.Proofs.YtejbgoigkefnfaaGreatDoor
