/- The walks of law14's flag and example; the example as a law in memory. No conditions. -/
import Derived.Test.YtihpoecdnchioaaGreatDoorTok
import Derived.Test.YtihpoecdnchioaaGreatDoorMem2
import Derived.Lib.Hide
import Derived.Deep.RegionWith
import Derived.Deep.DeepCutAuto
namespace Go.Proofs.YtihpoecdnchioaaGreatDoor
open Go.RowKit

def flagF (s : ByteArray) : Fo := .mk 3 s 1 1 []
def flagC (s : ByteArray) : Array Value := #[.int .i64 3, .string s, .int .i64 1, .int .i64 1, .slice none 0 0]

set_option maxRecDepth 100000 in
set_option maxHeartbeats 400000 in
theorem flag_any (s : ByteArray) (w : World) : Calls Tryz.prog 44 #[.string s] w fun e w' => e = .returned (.agg #[.int .i64 3, .string s, .int .i64 1, .int .i64 1, .slice none 0 0]) ∧ w' = w.alloc (.cells #[.int .i64 3, .string s, .int .i64 1, .int .i64 1, .slice none 0 0] 44) := by
  go_enter Tryz.func44, Tryz.ntmps44
  go_wp2
  refine bodyPost_ret (results_cell1 (v := .agg #[.int .i64 3, .string s, .int .i64 1, .int .i64 1, .slice none 0 0]) rfl _ _ _ rfl (by go_simp)) rfl ⟨rfl, rfl⟩

def st0 : St := ⟨0, ⟨#[]⟩, 0, none, 0, 0⟩
def exP1 : Pv := ⟨⟨#[97]⟩, 0, 0, ⟨#[]⟩, 0, .mk 1 ⟨#[]⟩ 0 0 [], [], st0, st0, st0⟩
def exP2 : Pv := ⟨⟨#[98]⟩, 0, 0, ⟨#[]⟩, 0, flagF ⟨#[109, 101, 109, 98, 101, 114]⟩, [⟨#[97]⟩], st0, st0, st0⟩
def exP3 (es : List ByteArray) : Pv := ⟨⟨#[99]⟩, 0, 0, ⟨#[]⟩, 0, flagF ⟨#[112, 111, 111, 114]⟩, es, st0, st0, st0⟩
def exPs (es : List ByteArray) : List Pv := [exP1, exP2, exP3 es]
def exD : List Fa := [⟨⟨#[109, 101, 109, 98, 101, 114]⟩, 1, 0, 1⟩, ⟨⟨#[112, 111, 111, 114]⟩, 1, 0, 1⟩]
def exFC : Array Value := #[.string ⟨#[109, 101, 109, 98, 101, 114]⟩, .int .i64 1, .int .i64 0, .int .i64 1, .string ⟨#[112, 111, 111, 114]⟩, .int .i64 1, .int .i64 0, .int .i64 1]
def exPC (es : List ByteArray) (a : Nat) (ao : Option Addr) (cap : Nat) : Array Value := (pvC exP1 none 0 none 0 ++ pvC exP2 none 0 (some ⟨a, 0, none⟩) 1 ++ pvC (exP3 es) none 0 ao cap).toArray
def exLC (H : Nat) : Array Value := #[.slice (some ⟨H + 1, 0, none⟩) 2 2, .slice (some ⟨H + 6, 0, none⟩) 3 3, .slice none 0 0]

/-- what lies there behind the drawn statement -/
def ExEnd (w : World) (es : List ByteArray) (ao : Option Addr) (cap : Nat) (wx : World) : Prop := ∃ a, a < w.heap.size + 6 ∧ Hid (Blk wx w.heap.size 28 (exLC w.heap.size)) ∧ Hid (Blk wx (w.heap.size + 1) 90 exFC) ∧ Hid (Blk wx (w.heap.size + 6) 49 (exPC es a ao cap)) ∧ Hid (Blk wx a 9 #[.string ⟨#[97]⟩]) ∧ Hid (Below w.heap.size w wx)
def s97 : Obj := .cells #[.string ⟨#[97]⟩] 9 (0, 0)
theorem blk_seven {w : World} {o0 o1 o2 o3 o4 o5 o6 : Obj} : ∀ (k : Nat) (cs : Array Value) (t : TypeId), [o0, o1, o2, o3, o4, o5, o6][k]? = some (.cells cs t (0, 0)) → Blk (((((((w.alloc o0).alloc o1).alloc o2).alloc o3).alloc o4).alloc o5).alloc o6).drew (w.heap.size + k) t cs := by
  intro k cs t h
  show (((((((w.heap.push o0).push o1).push o2).push o3).push o4).push o5).push o6)[w.heap.size + k]? = _
  rw [← Array.getElem?_toList]
  simp only [Array.toList_push, List.append_assoc, List.cons_append, List.nil_append]
  rw [List.getElem?_append_right (by rw [Array.length_toList]; omega), Array.length_toList, Nat.add_sub_cancel_left]
  exact h
/-- how the seven objects lie -/
theorem exEnd (w : World) (es : List ByteArray) (ao : Option Addr) (cap a : Nat) (O2 O3 O4 O5 : Obj)
    (h : (a = w.heap.size + 3 ∧ O3 = s97) ∨ (a = w.heap.size + 4 ∧ O4 = s97) ∨ (a = w.heap.size + 5 ∧ O5 = s97)) :
    ExEnd w es ao cap (((((((w.alloc (.cells (exLC w.heap.size) 28)).alloc (.cells exFC 90)).alloc O2).alloc O3).alloc O4).alloc O5).alloc (.cells (exPC es a ao cap) 49)).drew := by
  have hb : Below w.heap.size w (((((((w.alloc (.cells (exLC w.heap.size) 28)).alloc (.cells exFC 90)).alloc O2).alloc O3).alloc O4).alloc O5).alloc (.cells (exPC es a ao cap) 49)).drew :=
    (((((((Below.refl _ _).alloc (Nat.le_refl _) _).alloc (by simp) _).alloc (by simp; omega) _).alloc (by simp; omega) _).alloc (by simp; omega) _).alloc (by simp; omega) _).alloc (by simp; omega) _ |>.drew
  rcases h with ⟨rfl, rfl⟩ | ⟨rfl, rfl⟩ | ⟨rfl, rfl⟩
  · exact ⟨w.heap.size + 3, by omega, blk_seven 0 _ _ rfl, blk_seven 1 _ _ rfl, blk_seven 6 _ _ rfl, blk_seven 3 _ _ rfl, hb⟩
  · exact ⟨w.heap.size + 4, by omega, blk_seven 0 _ _ rfl, blk_seven 1 _ _ rfl, blk_seven 6 _ _ rfl, blk_seven 4 _ _ rfl, hb⟩
  · exact ⟨w.heap.size + 5, by omega, blk_seven 0 _ _ rfl, blk_seven 1 _ _ rfl, blk_seven 6 _ _ rfl, blk_seven 5 _ _ rfl, hb⟩

set_option maxRecDepth 100000 in
set_option maxHeartbeats 16000000 in
theorem example_walk (es : List ByteArray) (ao : Option Addr) (cap : Nat) (w : World) : Calls Tryz.prog 27 #[.slice ao es.length cap] w fun e w' => e = .returned (.agg (exLC w.heap.size)) ∧ ∃ a, a < w.heap.size + 6 ∧
    Blk w' (w.heap.size + 1) 90 exFC ∧ Blk w' (w.heap.size + 6) 49 (exPC es a ao cap) ∧ Blk w' a 9 #[.string ⟨#[97]⟩] ∧ Below w.heap.size w w' := by
  go_enter Tryz.func27, Tryz.ntmps27
  go_upto_region 2 with (fail)
  go_cut [] (fun wx => ExEnd w es ao cap wx)
  case first =>
    go_region_with (go_at_call 44; refine (flag_any _ _).mono ?_; rintro e w' ⟨rfl, rfl⟩)
    all_goals
      go_wp2
      go_meet
      refine exEnd w es ao cap _ _ _ _ _ ?_
      first
        | exact .inl ⟨rfl, rfl⟩
        | exact .inr (.inl ⟨rfl, rfl⟩)
        | exact .inr (.inr ⟨rfl, rfl⟩)
  case rest =>
    obtain ⟨a, ha, h0, h1, h2, h3, h4⟩ := hcut
    have c0 : wc.cell? ⟨w.heap.size, 0, none⟩ = some (.slice (some ⟨w.heap.size + 1, 0, none⟩) 2 2) := h0.out.cell 0
    have c1 : wc.cell? ⟨w.heap.size, 1, none⟩ = some (.slice (some ⟨w.heap.size + 6, 0, none⟩) 3 3) := h0.out.cell 1
    have c2 : wc.cell? ⟨w.heap.size, 2, none⟩ = some (.slice none 0 0) := h0.out.cell 2
    go_wp2
    refine bodyPost_ret (results_cell1 (v := .agg (exLC w.heap.size)) rfl _ _ _ rfl (by unfold exLC; go_simp)) rfl ⟨rfl, a, ha, h1.out, h2.out, h3.out, h4.out⟩

end Go.Proofs.YtihpoecdnchioaaGreatDoor

namespace Go.Proofs.YtihpoecdnchioaaGreatDoor
open Go.RowKit

theorem w0_ : W64 0 := ⟨by decide, by decide⟩
theorem w1_ : W64 1 := ⟨by decide, by decide⟩
theorem w3_ : W64 3 := ⟨by decide, by decide⟩
theorem sz0 : (⟨#[]⟩ : ByteArray).size ≤ maxLen := by decide
theorem sza : (⟨#[97]⟩ : ByteArray).size ≤ maxLen := by decide
theorem szb : (⟨#[98]⟩ : ByteArray).size ≤ maxLen := by decide
theorem szc : (⟨#[99]⟩ : ByteArray).size ≤ maxLen := by decide
theorem szm : (⟨#[109, 101, 109, 98, 101, 114]⟩ : ByteArray).size ≤ maxLen := by decide
theorem szp : (⟨#[112, 111, 111, 114]⟩ : ByteArray).size ≤ maxLen := by decide
theorem le1 : 1 ≤ maxLen := by decide
theorem ex_law {es : List ByteArray} {ao : Option Addr} {cap a H B : Nat} {W : World} (hes : StrsIn W B es (.slice ao es.length cap)) (hB : B ≤ W.heap.size)
    (h1 : Blk W (H + 1) 90 exFC) (h2 : Blk W (H + 6) 49 (exPC es a ao cap)) (h3 : Blk W a 9 #[.string ⟨#[97]⟩]) : LawIn W W.heap.size exD (exPs es) (.agg (exLC H)) := by
  refine ⟨_, _, none, 0, 0, rfl, ⟨some ⟨H + 1, 0, none⟩, 2, rfl, by decide, by decide, fun _ => ⟨H + 1, 0, rfl, h1.lt, fun i hi => ?_⟩⟩, ⟨some ⟨H + 6, 0, none⟩, 3, rfl, Nat.le_refl _, by decide, fun _ => ⟨H + 6, 0, rfl, h2.lt, fun i hi => ?_⟩⟩⟩
  · match i, hi with
    | 0, _ => exact ⟨h1.cell 0, h1.cell 1, h1.cell 2, h1.cell 3, szm, w1_, w0_, w1_⟩
    | 1, _ => exact ⟨h1.cell 4, h1.cell 5, h1.cell 6, h1.cell 7, szp, w1_, w0_, w1_⟩
  · match i, hi with
    | 0, _ =>
      refine ⟨none, 0, none, 0, fun j v hv => ?_, ⟨none, 0, rfl, w1_, w0_, w0_, sz0, Nat.le_refl _, Nat.zero_le _, fun h => absurd rfl h⟩, ⟨none, 0, rfl, Nat.le_refl _, Nat.zero_le _, fun h => absurd rfl h⟩, sza, sz0⟩
      have hj : j < 23 := by
        rcases Nat.lt_or_ge j 23 with h | h
        · exact h
        · rw [List.getElem?_eq_none (by exact h)] at hv; cases hv
      have h := h2.cell (0 + 0 * 23 + j)
      rw [h]
      show (exPC es a ao cap)[_]? = _
      unfold exPC
      rw [List.getElem?_toArray, List.append_assoc, List.getElem?_append_left (by show _ < 23; omega), show 0 + 0 * 23 + j = j by omega]
      exact hv
    | 1, _ =>
      refine ⟨none, 0, some ⟨a, 0, none⟩, 1, fun j v hv => ?_, ⟨none, 0, rfl, w3_, w1_, w1_, szm, Nat.le_refl _, Nat.zero_le _, fun h => absurd rfl h⟩, ⟨some ⟨a, 0, none⟩, 1, rfl, Nat.le_refl _, le1, fun _ => ⟨a, 0, rfl, h3.lt, fun k hk => ?_⟩⟩, szb, sz0⟩
      · have hj : j < 23 := by
          rcases Nat.lt_or_ge j 23 with h | h
          · exact h
          · rw [List.getElem?_eq_none (by exact h)] at hv; cases hv
        have h := h2.cell (0 + 1 * 23 + j)
        rw [h]
        show (exPC es a ao cap)[_]? = _
        unfold exPC
        rw [List.getElem?_toArray, List.append_assoc, List.getElem?_append_right (by show 23 ≤ _; omega), List.getElem?_append_left (by show _ - 23 < 23; omega), show 0 + 1 * 23 + j - (pvC exP1 none 0 none 0).length = j by show _ - 23 = _; omega]
        exact hv
      · match k, hk with
        | 0, _ => exact h3.cell 0
    | 2, _ =>
      refine ⟨none, 0, ao, cap, fun j v hv => ?_, ⟨none, 0, rfl, w3_, w1_, w1_, szp, Nat.le_refl _, Nat.zero_le _, fun h => absurd rfl h⟩, hes.mono (OneR.mono _) hB, szc, sz0⟩
      have hj : j < 23 := by
        rcases Nat.lt_or_ge j 23 with h | h
        · exact h
        · rw [List.getElem?_eq_none (by exact h)] at hv; cases hv
      have h := h2.cell (0 + 2 * 23 + j)
      rw [h]
      show (exPC es a ao cap)[_]? = _
      unfold exPC
      rw [List.getElem?_toArray, List.getElem?_append_right (by show 46 ≤ _; omega), show 0 + 2 * 23 + j - (pvC exP1 none 0 none 0 ++ pvC exP2 none 0 (some ⟨a, 0, none⟩) 1).length = j by show _ - 46 = _; omega]
      exact hv

theorem example_any (es : List ByteArray) (u : Value) (w : World) (B : Nat) (hB : B ≤ w.heap.size) (he : StrsIn w B es u) :
    Calls Tryz.prog 27 #[u] w fun e w' => ∃ v, e = .returned v ∧ Below w.heap.size w w' ∧ LawIn w' w'.heap.size exD (exPs es) v := by
  obtain ⟨ao, cap, rfl, _⟩ := SlIn.shape he
  refine (example_walk es ao cap w).mono ?_
  rintro e w' ⟨rfl, a, ha, h1, h2, h3, h4⟩
  exact ⟨_, rfl, h4, ex_law (he.below (h4.mono hB)) (Nat.le_trans hB h4.size) h1 h2 h3⟩

end Go.Proofs.YtihpoecdnchioaaGreatDoor

