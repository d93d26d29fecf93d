/- slices.ContainsFunc at provisions; the closure of norm.ask. A bound on the conditions' sizes. -/
import Derived.Test.YtihpoecdnchioaaGreatDoorSl2
import Derived.Test.YtihpoecdnchioaaGreatDoorHolds2
import Derived.Test.YtihpoecdnchioaaGreatDoorFew
namespace Go.Proofs.YtihpoecdnchioaaGreatDoor
open Go.RowKit

theorem pv_box (p : Pv) (ak : Option Addr) (ck : Nat) (ae : Option Addr) (ce : Nat) : (Value.agg (pvC p ak ck ae ce).toArray).cells = (pvC p ak ck ae ce).toArray := by
  have h := pvC_one p ak ck ae ce
  simp [Value.cells, pvC]

def badF (d : List Fa) (p : Pv) : Bool := decide (checkF p.cond d (fun _ => false) ≠ 0)

set_option maxRecDepth 100000 in
set_option maxHeartbeats 4000000 in
theorem askC_any (d : List Fa) (p : Pv) (ak : Option Addr) (ck : Nat) (ae : Option Addr) (ce : Nat) (lb : Nat) (ad : Option Addr) (cd : Nat) (B : Nat) (W : World) (hs : p.cond.size ≤ 1000000) (hlb : lb < W.heap.size) (hB : B ≤ W.heap.size)
    (hl : W.cell? ⟨lb, 0, none⟩ = some (.slice ad d.length cd)) (hd : DomIn W B d (.agg #[.slice ad d.length cd])) (hf : p.cond.In W B (.agg #[.int .i64 p.cond.op, .string p.cond.name, .int .i64 p.cond.cmp, .int .i64 p.cond.n, .slice ak p.cond.kids.length ck])) :
    Calls Tryz.prog 45 #[.agg (pvC p ak ck ae ce).toArray, .pointer (some ⟨lb, 0, none⟩)] W fun e w' => e = .returned (.bool (badF d p)) ∧ Below W.heap.size W w' := by
  have hb1 : Below W.heap.size W (W.alloc (.cells (pvC p ak ck ae ce).toArray 49)) := (Below.refl _ _).alloc (Nat.le_refl _) _
  have K0 := Blk.new W 49 (pvC p ak ck ae ce).toArray
  have HC := Lib.hid (checkP_any p.cond d [] _ _ (.slice none 0 0) (W.alloc (.cells (pvC p ak ck ae ce).toArray 49)) B hs (by simp; omega) (Fo.In.below (hb1.mono hB) _ _ hf) (hd.below (hb1.mono hB)) ⟨none, 0, rfl, Nat.le_refl _, Nat.zero_le _, fun h => absurd rfl h⟩)
  have c5 : (W.alloc (.cells (pvC p ak ck ae ce).toArray 49)).cell? ⟨W.heap.size, 5, none⟩ = some (.int .i64 p.cond.op) := K0.cell 5
  have c6 : (W.alloc (.cells (pvC p ak ck ae ce).toArray 49)).cell? ⟨W.heap.size, 6, none⟩ = some (.string p.cond.name) := K0.cell 6
  have c7 : (W.alloc (.cells (pvC p ak ck ae ce).toArray 49)).cell? ⟨W.heap.size, 7, none⟩ = some (.int .i64 p.cond.cmp) := K0.cell 7
  have c8 : (W.alloc (.cells (pvC p ak ck ae ce).toArray 49)).cell? ⟨W.heap.size, 8, none⟩ = some (.int .i64 p.cond.n) := K0.cell 8
  have c9 : (W.alloc (.cells (pvC p ak ck ae ce).toArray 49)).cell? ⟨W.heap.size, 9, none⟩ = some (.slice ak p.cond.kids.length ck) := K0.cell 9
  have cl := (hb1.cell (p := ⟨lb, 0, none⟩) hlb).trans hl
  have HB1 := Lib.hid hb1
  have hpb := pv_box p ak ck ae ce
  have HR : Hid (badF d p = decide (checkF p.cond d (fun _ => false) ≠ 0)) := rfl
  rw [show (fun s => ([] : List ByteArray).any fun x => eqB s x) = fun _ => false from rfl] at HC
  generalize checkF p.cond d (fun _ => false) = er at *
  generalize badF d p = R at *
  generalize (pvC p ak ck ae ce).toArray = pa at *
  clear hb1 K0 hd hf hs
  go_enter Tryz.func45, Tryz.ntmps45
  go_wp2_with (go_at_call 46; refine HC.out.mono ?_; rintro e w4 ⟨rfl, hb4⟩)
  go_ret
  exact ⟨ret_bool (by rw [HR.out]; by_cases h : er = 0 <;> simp [h]), HB1.out.trans (hb4.mono (by simp))⟩

/-- a provision as a value -/
def PvV (B : Nat) (W : World) (x : Pv) (v : Value) : Prop := ∃ ak ck ae ce, v = .agg (pvC x ak ck ae ce).toArray ∧ x.cond.In W B (.agg #[.int .i64 x.cond.op, .string x.cond.name, .int .i64 x.cond.cmp, .int .i64 x.cond.n, .slice ak x.cond.kids.length ck])

set_option maxRecDepth 100000 in
set_option maxHeartbeats 400000 in
theorem idxFuncPv_any (ks : List Pv) (g : Nat) (lb : Array Value) (p : Pv → Bool) (J : World → Prop) (B : Nat) (ao : Option Addr) (cap : Nat) (w : World) (eg : ∀ args w, (callFunc g args).run Tryz.prog w = .ok (.enter g args) w)
    (hcap : cap ≤ maxLen) (hlen : ks.length ≤ cap) (hrow : ∀ W, J W → SlIn PvR 23 W B ks (.slice ao ks.length cap)) (hp : FnOn g lb (PvV B) p ks J) (h0 : J w) :
    Calls Tryz.prog 69 #[.slice ao ks.length cap, .func (.func g) #[] lb] w fun e w' => e = .returned (.int .i64 (idxFrom p ks 0)) ∧ J w' := by
  unfold maxLen at hcap
  have HR : Hid (idxFrom p ks 0 = idxFrom p (ks.drop 0) ((0 : Nat) : Int)) := rfl
  have HP := Lib.hid hp
  have HW := Lib.hid hrow
  have HJ0 := Lib.hid h0
  generalize idxFrom p ks 0 = R at *
  clear hp hrow h0
  go_enter Tryz.func69, Tryz.ntmps69
  go_wp2
  go_loopw [8] (fun i wr => ∃ k : Nat, k ≤ ks.length ∧ i = .int .i64 k ∧ Hid (R = idxFrom p (ks.drop k) (k : Nat)) ∧ Hid (J wr)) (fun i _ => ks.length - (intOf i).toNat)
  case atStart => exact ⟨0, by omega, rfl, HR, HJ0⟩
  case round =>
    obtain ⟨k, hk, rfl, hin, hj⟩ := hrel
    by_cases hlt : k < ks.length
    · obtain ⟨b, off, rfl, hbB, ak, ck, ae, ce, hr, hf, he, hz⟩ := SlIn.at (HW.out wr hj.out) k hlt
      have hs := hin.out
      rw [idxFrom_drop _ ks k hlt] at hs
      have HC := Lib.hid (HP.out wr ks[k] (.agg (pvC ks[k] ak ck ae ce).toArray) (List.getElem_mem _) hj.out ⟨ak, ck, ae, ce, rfl, hf⟩)
      have HRG := Lib.hid hr
      generalize ks[k] = y at *
      have HJ := hj
      clear hf he hz hr hj
      cases he : p y with
      | true =>
        have HS := Lib.hid (show (k : Int) = R by rw [hs, he]; rfl)
        rw [he] at HC
        clear hs hin HR
        go_wp2_with (first
          | ((with_reducible show wpList _ _ _ (⟨_, Op.load 49 (.tmp 14), _, _, _, _⟩ :: _) _ _); refine wpList_load_pv rfl (.tmp 14) rfl rfl y ak ck ae ce HRG.out Tryz.underlying49 rfl Pv.info ?_)
          | (go_at_fn g; refine HC.out.mono ?_; rintro e w' ⟨rfl, hj'⟩))
        go_ret
        exact ⟨ret_int HS.out, hj'⟩
      | false =>
        have HS := Lib.hid (show R = idxFrom p (ks.drop (k + 1)) ((k + 1 : Nat) : Int) by rw [hs, he]; rfl)
        rw [he] at HC
        clear hs hin HR
        go_wp2_with (first
          | ((with_reducible show wpList _ _ _ (⟨_, Op.load 49 (.tmp 14), _, _, _, _⟩ :: _) _ _); refine wpList_load_pv rfl (.tmp 14) rfl rfl y ak ck ae ce HRG.out Tryz.underlying49 rfl Pv.info ?_)
          | (go_at_fn g; refine HC.out.mono ?_; rintro e w' ⟨rfl, hj'⟩))
        have HJ' := Lib.hid hj'
        clear hj'
        go_roundw
        case rel => exact ⟨k + 1, by omega, by go_num, HS, HJ'⟩
        case measure => simp [intOf]; omega
    · have HS := Lib.hid (show (-1 : Int) = R by
        have h0 := hin.out
        rw [List.drop_of_length_le (by omega)] at h0
        exact h0.symm)
      clear hin HR
      go_wp2
      go_ret
      exact ⟨ret_int HS.out, hj.out⟩

set_option maxRecDepth 100000 in
set_option maxHeartbeats 400000 in
theorem contFuncPv_any (ks : List Pv) (g : Nat) (lb : Array Value) (p : Pv → Bool) (J : World → Prop) (B : Nat) (ao : Option Addr) (cap : Nat) (w : World) (eg : ∀ args w, (callFunc g args).run Tryz.prog w = .ok (.enter g args) w)
    (hcap : cap ≤ maxLen) (hlen : ks.length ≤ cap) (hrow : ∀ W, J W → SlIn PvR 23 W B ks (.slice ao ks.length cap)) (hp : FnOn g lb (PvV B) p ks J) (h0 : J w) :
    Calls Tryz.prog 47 #[.slice ao ks.length cap, .func (.func g) #[] lb] w fun e w' => e = .returned (.bool (ks.any p)) ∧ J w' := by
  have C := Lib.hid (idxFuncPv_any ks g lb p J B ao cap w eg hcap hlen hrow hp h0)
  have HA := Lib.hid (idxFrom_any p ks 0)
  change Hid (decide ((0 : Int) ≤ idxFrom p ks 0) = _) at HA
  generalize idxFrom p ks 0 = R at *
  clear hrow hp h0
  go_enter Tryz.func47, Tryz.ntmps47
  go_wp2_with (go_at_call 69; refine C.out.mono ?_; rintro e w' ⟨rfl, hj⟩)
  go_ret
  exact ⟨ret_bool HA.out, hj⟩

end Go.Proofs.YtihpoecdnchioaaGreatDoor
