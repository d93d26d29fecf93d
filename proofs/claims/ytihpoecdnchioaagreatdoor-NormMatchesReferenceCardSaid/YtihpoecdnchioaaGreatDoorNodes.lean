/- The walk of formula.nodes: the iterator over the nodes of a formula, inside a fence. No conditions. -/
import Derived.Test.YtihpoecdnchioaaGreatDoorTok
import Derived.Test.YtihpoecdnchioaaGreatDoorSize
namespace Go.Proofs.YtihpoecdnchioaaGreatDoor
open Go.RowKit
attribute [local go_sem] Oper.semAt_some

mutual
/-- all nodes, a node ahead of its kids -/
def nodesL : Fo → List Fo
  | .mk op nm c n ks => .mk op nm c n ks :: nodesLL ks
def nodesLL : List Fo → List Fo
  | [] => []
  | k :: ks => nodesL k ++ nodesLL ks
end
mutual
theorem nodesL_len : ∀ (f : Fo), (nodesL f).length = f.size
  | .mk op nm c n ks => by simp [nodesL, Fo.size, nodesLL_len ks]
theorem nodesLL_len : ∀ (ks : List Fo), (nodesLL ks).length = Fo.sizeL ks
  | [] => by simp [nodesLL, Fo.sizeL]
  | k :: ks => by simp [nodesLL, Fo.sizeL, nodesL_len k, nodesLL_len ks]
end
theorem nodesLL_app : ∀ (a b : List Fo), nodesLL (a ++ b) = nodesLL a ++ nodesLL b
  | [], b => by simp [nodesLL]
  | k :: a, b => by simp [nodesLL, nodesLL_app a b]
theorem nodesLL_snoc (l : List Fo) (k : Nat) (h : k < l.length) : nodesLL (l.take (k + 1)) = nodesLL (l.take k) ++ nodesL l[k] := by
  rw [List.take_succ_eq_append_getElem h, nodesLL_app]; simp [nodesLL]
theorem nodesLL_pre (l : List Fo) (k : Nat) : nodesLL (l.take k) <+: nodesLL l := by
  have h := nodesLL_app (l.take k) (l.drop k)
  rw [List.take_append_drop] at h
  exact ⟨_, h.symm⟩

/-- what lay in cells lies there -/
structure KeepC (W W' : World) : Prop where
  size : W.heap.size ≤ W'.heap.size
  cells : ∀ (k : Nat) (cs : Array Value) (t : TypeId) (z : Nat × Nat), W.heap[k]? = some (Obj.cells cs t z) → W'.heap[k]? = some (Obj.cells cs t z)
theorem KeepC.refl (W : World) : KeepC W W := ⟨Nat.le_refl _, fun _ _ _ _ h => h⟩
theorem KeepC.t : ∀ {A B C : World}, KeepC A B → KeepC B C → KeepC A C := fun h k => ⟨Nat.le_trans h.1 k.1, fun i cs t z hi => k.2 i cs t z (h.2 i cs t z hi)⟩
theorem KeepC.b {n : Nat} : ∀ (W : World) (l : Nat) (o o' : Obj), n ≤ l → W.heap[l]? = some o → o.isCells = false → o.isWalk = false → KeepC W (W.putObj l o') := fun W l o o' _ hl ho _ =>
  ⟨Nat.le_of_eq (by simp [World.putObj]), fun k cs t z hk => (World.putObj_heap_other (fun e => by subst e; rw [hl] at hk; cases hk; cases ho)).trans hk⟩
theorem KeepC.below {W W' : World} (h : Below W.heap.size W W') : KeepC W W' := ⟨h.size, fun k _ _ _ hk => (h.block k (Array.getElem?_eq_some_iff.1 hk).1).trans hk⟩
theorem KeepC.blk {W W' : World} (h : KeepC W W') {B : Nat} {t : TypeId} {cs : Array Value} (hB : Blk W B t cs) : Blk W' B t cs := h.2 _ _ _ _ hB
theorem KeepC.cell {W W' : World} (h : KeepC W W') {p : Addr} {v : Value} (hc : W.cell? p = some v) : W'.cell? p = some v := by
  unfold World.cell? at hc ⊢
  cases hb : W.heap[p.block]? with
  | none => rw [hb] at hc; cases hc
  | some o =>
    rw [hb] at hc
    cases o with
    | cells cs t z => rw [h.2 _ _ _ _ hb]; exact hc
    | _ => cases hc

mutual
theorem Fo.In.keep {w w' : World} {B : Nat} (hb : KeepC w w') : ∀ (f : Fo) (v : Value), f.In w B v → f.In w' B v
  | .mk op nm c n ks, v => by
    rintro ⟨ao, cap, hv, h1, h2, h3, h4, h5, h6, h7⟩
    refine ⟨ao, cap, hv, h1, h2, h3, h4, h5, h6, fun hne => ?_⟩
    obtain ⟨b, off, ha, hlt, hL⟩ := h7 hne
    exact ⟨b, off, ha, hlt, Fo.InL.keep hb ks off hL⟩
theorem Fo.InL.keep {w w' : World} {B b : Nat} (hb : KeepC w w') : ∀ (ks : List Fo) (off : Nat), Fo.InL w B ks b off → Fo.InL w' B ks b off
  | [], _ => fun _ => trivial
  | k :: ks, off => by
    rintro ⟨⟨v0, v1, v2, v3, v4, c0, c1, c2, c3, c4, hk⟩, hks⟩
    exact ⟨⟨v0, v1, v2, v3, v4, hb.cell c0, hb.cell c1, hb.cell c2, hb.cell c3, hb.cell c4, Fo.In.keep hb k _ hk⟩, Fo.InL.keep hb ks (off + 5) hks⟩
end

/-- a formula with its value, as it lay in a world -/
abbrev FoV (w0 : World) (B : Nat) := { x : Fo × Value // x.1.In w0 B x.2 }
def FoV.fo {w0 : World} {B : Nat} (x : FoV w0 B) : Fo := x.1.1

theorem room_none {F : Fence} (hd : F.depth = none) (k : Nat) : F.room k := fun d h => by rw [hd] at h; cases h
theorem anyDepth {F : Fence} (hd : F.depth = none) {m : Nat} (m' : Nat) {P : Program} {l : Nat} {args : Array Value} {W : World} {R : Ending → World → Prop} (h : YieldAt F m P l args W R) : YieldAt F m' P l args W R := by
  obtain ⟨fn, tmps, assign, body, hy, hR⟩ := h
  exact ⟨fn, tmps, assign, body, hy, hR.1, fun c cs _ => hR.2 c cs (room_none hd _)⟩

/-- what a round does -/
abbrev YieldOk (w0 : World) (B : Nat) (l N : Nat) (J Jx : List (FoV w0 B) → World → Prop) : Prop :=
  ∀ m pre (x : FoV w0 B) W, J pre W → pre.length < N → YieldAt Fence.wide m Tryz.prog l #[x.1.2] W fun e W' =>
    (e = .returned (.bool true) ∧ J (pre ++ [x]) W' ∧ KeepC W W') ∨ (e = .returned (.bool false) ∧ Jx (pre ++ [x]) W')

set_option maxRecDepth 100000 in
set_option maxHeartbeats 2000000 in
theorem visit_any (w0 : World) (B Bh l yb vb N : Nat) (J Jx : List (FoV w0 B) → World → Prop) (hJ : AbidesFrom Bh J) (hY : YieldOk w0 B l N J Jx) (M : Nat) :
    ∀ (f : Fo) (n : Nat) (v : Value) (pre : List (FoV w0 B)) (W : World), f.size ≤ M → f.In w0 B v → KeepC w0 W → Blk W yb 83 #[.func (.yield l) #[] #[]] →
      Blk W vb 83 #[.func (.func 80) #[] #[.pointer (some ⟨yb, 0, none⟩), .pointer (some ⟨vb, 0, none⟩)]] → J pre W → pre.length + f.size ≤ N →
      CallsIn Fence.wide n Tryz.prog 80 #[v, .pointer (some ⟨yb, 0, none⟩), .pointer (some ⟨vb, 0, none⟩)] W fun e W' =>
        (e = .returned (.bool true) ∧ ∃ ys : List (FoV w0 B), ys.map FoV.fo = nodesL f ∧ J (pre ++ ys) W' ∧ KeepC W W') ∨
        (e = .returned (.bool false) ∧ ∃ ys : List (FoV w0 B), ys.map FoV.fo <+: nodesL f ∧ Jx (pre ++ ys) W') := by
  induction M with
  | zero => intro f _ _ _ _ h; have := f.size_pos; omega
  | succ M ih =>
  intro f n v pre W hM hf hk hyb hvb hJ0 hN
  have IH := Lib.hid ih
  have HY := Lib.hid hY
  have HJ := Lib.hid hJ
  clear ih hY hJ
  have HF := Lib.hid hf
  obtain ⟨op, nm, c, nn, ks⟩ := f
  obtain ⟨ao, cap, rfl, _, _, _, _, h5, h6, h7⟩ := hf
  unfold maxLen at h6
  have H7 := Lib.hid h7
  have hb1 : Below W.heap.size W (W.alloc (.cells #[.int .i64 op, .string nm, .int .i64 c, .int .i64 nn, .slice ao ks.length cap] 44)) := (Below.refl _ _).alloc (Nat.le_refl _) _
  have hbx := Blk.new W 44 #[.int .i64 op, .string nm, .int .i64 c, .int .i64 nn, .slice ao ks.length cap]
  have hJ1 := abides_below HJ.out hJ0 hb1
  obtain ⟨fn, tmps, assign, body, hy, hR⟩ := HY.out (n - 1) pre ⟨⟨_, _⟩, HF.out⟩ _ hJ1 (by rw [Fo.size] at hN; omega)
  have hyc := (hyb.below hb1).cell 0
  have HYB := Lib.hid hyb
  have HVB := Lib.hid hvb
  have HB1 := Lib.hid hb1
  have HBX := Lib.hid hbx
  have HR := Lib.hid hR
  have HKW := Lib.hid hk
  clear h7 hb1 hbx hR hyb hvb hJ0 hJ1 hk
  dsimp only at hy
  refine callsIn_of_wp Tryz.func80 rfl trivial ?_ rfl
  simp only [Tryz.ntmps80, List.size_toArray, List.length_cons, List.length_nil, Nat.reduceAdd, Nat.reduceSub, Array.replicate_succ, Array.replicate_zero, List.push_toArray, List.append_toArray, List.nil_append, List.cons_append]
  have hno : ∀ k : Nat, (Fence.wide.depth.isSome = true → 1 ≤ k) := fun k h => by cases h
  gi_wp2
  refine ⟨hno _, ?_⟩
  refine HR.out.mono ?_
  rintro e W1 (⟨rfl, hJ2, hk2⟩ | ⟨rfl, hx2⟩)
  · have hbx1 := hk2.blk HBX.out
    have c4 : W1.cell? ⟨W.heap.size, 4, none⟩ = some (.slice ao ks.length cap) := hbx1.cell 4
    have hz1 : W.heap.size < W1.heap.size := hbx1.lt
    have hv1 := hk2.blk (HVB.out.below HB1.out)
    have HK1 := Lib.hid ((KeepC.below HB1.out).t hk2)
    have HV1 := Lib.hid hv1
    have HJ2 := Lib.hid hJ2
    clear hbx1 hk2 hv1 hJ2
    gi_wp2
    gi_loopw [14] (fun vi wr => ∃ (k : Nat) (ys : List (FoV w0 B)), k ≤ ks.length ∧ vi = .int .i64 k ∧ Hid (ys.map FoV.fo = .mk op nm c nn ks :: nodesLL (ks.take k)) ∧ Hid (J (pre ++ ys) wr) ∧ Hid (KeepC W1 wr)) (fun vi _ => ks.length - (intOf vi).toNat)
    case atStart => exact ⟨0, [⟨⟨_, _⟩, HF.out⟩], Nat.zero_le _, rfl, rfl, HJ2, Lib.hid (KeepC.refl _)⟩
    case round =>
      obtain ⟨k, ys, hk, rfl, hys, hJr, hkr⟩ := hrel
      by_cases hlt : k < ks.length
      · obtain ⟨b, off, rfl, hbB, hL⟩ := H7.out (by intro h; simp [h] at hlt)
        have hkw := HKW.out.t (HK1.out.t hkr.out)
        obtain ⟨ka, kc, g0, g1, g2, g3, g4, gk⟩ := Fo.InL.get ks off k hlt hL
        have c0 := hkw.cell g0
        have c1 := hkw.cell g1
        have c2 := hkw.cell g2
        have c3 := hkw.cell g3
        have c4 := hkw.cell g4
        have hvr := hkr.out.blk HV1.out
        have hv0 := hvr.cell 0
        have hvl := hvr.lt
        have hyr := (HK1.out.t hkr.out).blk HYB.out
        have hsn := nodesLL_snoc ks k hlt
        have hsk := Fo.size_get ks k hlt
        have hlen : ys.length = 1 + Fo.sizeL (ks.take k) := by
          have h1 := congrArg List.length hys.out
          rw [List.length_map, List.length_cons, nodesLL_len] at h1; omega
        have hs1 := Fo.sizeL_snoc ks k hlt
        have hs2 := Fo.sizeL_take ks (k + 1)
        have hM' : ks[k].size ≤ M := by rw [Fo.size] at hM; omega
        have hN' : (pre ++ ys).length + ks[k].size ≤ N := by rw [Fo.size] at hN; rw [List.length_append]; omega
        have hsz1 : W.heap.size ≤ wr.heap.size := (HK1.out.t hkr.out).size
        generalize hkk : ks[k] = kf at *
        have hb2 : Below wr.heap.size wr (wr.alloc (.cells #[.int .i64 kf.op, .string kf.name, .int .i64 kf.cmp, .int .i64 kf.n, .slice ka kf.kids.length kc] 44)) := (Below.refl _ _).alloc (Nat.le_refl _) _
        have hI := IH.out kf (n - 1) _ (pre ++ ys) _ hM' gk (hkw.t (KeepC.below hb2)) (hyr.below hb2) (hvr.below hb2) (abides_below HJ.out hJr.out hb2) hN'
        have HI := Lib.hid hI
        have HB2 := Lib.hid hb2
        have HSN := Lib.hid hsn
        have HKR := hkr
        have HYS := hys
        clear hI hb2 hsn hkw gk g0 g1 g2 g3 g4 hlen hs1 hs2 hM' hN' hvr hyr hkr hys hkk hL
        gi_wp2_with (refine ⟨trivial, hno _, ?_⟩; gi_at_call 80; refine HI.out.mono ?_; rintro e W3 (⟨rfl, zs, hq1, hz2, hz3⟩ | ⟨rfl, zs, hq1, hz2⟩))
        · have HZ1 := Lib.hid hq1
          clear hq1
          go_roundw
          case rel =>
            exact ⟨k + 1, ys ++ zs, by omega, by go_num, by show _ = _; rw [List.map_append, HYS.out, HZ1.out, HSN.out, List.cons_append], by show J _ _; rw [← List.append_assoc]; exact hz2, HKR.out.t ((KeepC.below HB2.out).t hz3)⟩
          case measure => simp [intOf]; omega
        · go_ret
          refine .inr ⟨rfl, ys ++ zs, ?_, by rw [← List.append_assoc]; exact hz2⟩
          rw [List.map_append, HYS.out, List.cons_append, nodesL]
          obtain ⟨r, hr⟩ := hq1
          obtain ⟨r', hr'⟩ := nodesLL_pre ks (k + 1)
          exact ⟨r ++ r', by rw [List.cons_append, ← hr', HSN.out, ← hr]; simp⟩
      · have hall : ks.take k = ks := List.take_of_length_le (by omega)
        have HYS := Lib.hid (show ys.map FoV.fo = nodesL (.mk op nm c nn ks) by rw [hys.out, hall, nodesL])
        clear hall hys
        gi_wp2
        go_ret
        exact .inl ⟨rfl, ys, HYS.out, hJr.out, HK1.out.t hkr.out⟩
  · gi_wp2
    go_ret
    exact .inr ⟨rfl, [⟨⟨_, _⟩, HF.out⟩], ⟨nodesLL ks, rfl⟩, hx2⟩

set_option maxHeartbeats 1000000 in
theorem nodes_any (f : Fo) (v : Value) (w : World) (B : Nat) (hf : f.In w B v) :
    Calls Tryz.prog 60 #[v] w fun e w' => e = .returned (.func (.func 79) #[] #[.pointer (some ⟨w.heap.size, 0, none⟩)]) ∧ ∃ cs, v = .agg cs ∧ w' = w.alloc (.cells cs 44) := by
  obtain ⟨ao, cap, rfl⟩ := hf.shape
  clear hf
  go_enter Tryz.func60, Tryz.ntmps60
  go_wp2
  go_ret
  exact ⟨rfl, _, rfl, rfl⟩

theorem run_store_fn {P : Program} {w : World} {a : Addr} {m : Mode} (f : Fn) (x y : Array Value) : (store a (.func f x y) m).run P w = stored P w a (.func f x y) m := Go.run_store P w a _ m rfl

section
attribute [local go_sem] run_store_fn
set_option maxRecDepth 100000 in
set_option maxHeartbeats 2000000 in
theorem nodes1_any (n : Nat) (w0 : World) (B fb : Nat) (f : Fo) (cs : Array Value) (w : World) (hf : f.In w0 B (.agg cs)) (hk : KeepC w0 w) (hfb : Blk w fb 44 cs) :
    SeqStopsK Fence.wide n Tryz.prog 79 #[.pointer (some ⟨fb, 0, none⟩)] (fun x : FoV w0 B => #[x.1.2]) KeepC (fun xs => xs.map FoV.fo = nodesL f) (fun xs => xs.map FoV.fo <+: nodesL f) f.size w :=
  fun l J Jx W hW hJ hJx hY h0 => by
  have hno : ∀ k : Nat, (Fence.wide.depth.isSome = true → 1 ≤ k) := fun k h => by cases h
  have hY' : YieldOk w0 B l f.size J Jx := fun m pre x W hj hl => anyDepth rfl m (hY pre x W hj hl)
  have hfW := hfb.below hW
  have hfl := hfW.lt
  have HF := Lib.hid hf
  obtain ⟨ao, cap, hcs⟩ := hf.shape
  cases hcs
  have c0 := hfW.cell 0
  have c1 := hfW.cell 1
  have c2 := hfW.cell 2
  have c3 := hfW.cell 3
  have c4 := hfW.cell 4
  simp only [List.getElem?_toArray, List.getElem?_cons_zero, List.getElem?_cons_succ] at c0 c1 c2 c3 c4
  have b1 := (Blk.new W 83 #[.func (.yield l) #[] #[]]).below ((Below.refl _ _).alloc (Nat.le_refl _) (.cells #[.func (.func 80) #[] #[.pointer (some ⟨W.heap.size, 0, none⟩), .pointer (some ⟨W.heap.size + 1, 0, none⟩)]] 83))
  have b2 := Blk.new (W.alloc (.cells #[.func (.yield l) #[] #[]] 83)) 83 #[.func (.func 80) #[] #[.pointer (some ⟨W.heap.size, 0, none⟩), .pointer (some ⟨W.heap.size + 1, 0, none⟩)]]
  rw [World.size_alloc] at b2
  have hW1 : Below W.heap.size W ((W.alloc (.cells #[.func (.yield l) #[] #[]] 83)).alloc (.cells #[.func (.func 80) #[] #[.pointer (some ⟨W.heap.size, 0, none⟩), .pointer (some ⟨W.heap.size + 1, 0, none⟩)]] 83)) := ((Below.refl _ _).alloc (Nat.le_refl _) _).alloc (by simp) _
  have hV := visit_any w0 B W.heap.size l W.heap.size (W.heap.size + 1) f.size J Jx hJ hY' f.size f (n - 1) _ [] _ (Nat.le_refl _) HF.out (hk.t (KeepC.below (hW.trans (hW1.mono hW.size)))) b1 b2 (abides_below hJ h0 hW1) (by simp)
  have HV := Lib.hid hV
  clear hV b1 b2 hW1 hJ hJx hY hY' h0 hfW
  refine callsIn_of_wp Tryz.func79 rfl trivial ?_ rfl
  simp only [Tryz.ntmps79, List.size_toArray, List.length_cons, List.length_nil, Nat.reduceAdd, Nat.reduceSub, Array.replicate_succ, Array.replicate_zero, List.push_toArray, List.append_toArray, List.nil_append, List.cons_append]
  gi_wp2_with (refine ⟨trivial, hno _, ?_⟩; gi_at_call 80; refine HV.out.mono ?_; rintro e W3 (⟨rfl, zs, hq1, hz2, hz3⟩ | ⟨rfl, zs, hq1, hz2⟩))
  · go_end0
    exact ⟨⟨_, rfl⟩, .inl ⟨zs, hq1, hz2⟩⟩
  · go_end0
    exact ⟨⟨_, rfl⟩, .inr ⟨zs, hq1, hz2⟩⟩
end

end Go.Proofs.YtihpoecdnchioaaGreatDoor
