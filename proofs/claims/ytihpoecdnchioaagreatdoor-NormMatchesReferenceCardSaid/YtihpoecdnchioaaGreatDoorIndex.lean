/- The walk of fact.Index (with slices.IndexFunc at facts and its closure). No conditions. -/
import Derived.Test.YtihpoecdnchioaaGreatDoorFits
namespace Go.Proofs.YtihpoecdnchioaaGreatDoor
open Go.RowKit

/-- the place of the first element of which p holds, from place k on; -1 if there is none -/
def idxFrom {α : Type} (p : α → Bool) : List α → Int → Int
  | [], _ => -1
  | x :: l, k => if p x then k else idxFrom p l (k + 1)
def idxD (d : List Fa) (s : ByteArray) : Int := idxFrom (fun f => eqB f.name s) d 0

theorem idxFrom_drop {α : Type} (p : α → Bool) (l : List α) (k : Nat) (h : k < l.length) (i : Int) : idxFrom p (l.drop k) i = if p l[k] then i else idxFrom p (l.drop (k + 1)) (i + 1) := by
  rw [List.drop_eq_getElem_cons h, idxFrom]

def faV (f : Fa) : Value := .agg #[.string f.name, .int .i64 f.kind, .int .i64 f.lo, .int .i64 f.hi]

set_option maxHeartbeats 400000 in
theorem indexClosure_any (f : Fa) (s : ByteArray) (b : Nat) (w : World) (hb : b < w.heap.size) (hc : w.cell? ⟨b, 0, none⟩ = some (.string s)) :
    Calls Tryz.prog 64 #[.agg #[.string f.name, .int .i64 f.kind, .int .i64 f.lo, .int .i64 f.hi], .pointer (some ⟨b, 0, none⟩)] w fun e w' => e = .returned (.bool (eqB f.name s)) ∧ Below w.heap.size w w' := by
  go_enter Tryz.func64, Tryz.ntmps64
  go_wp2
  go_ret
  exact ⟨rfl, (Below.refl _ _).alloc (Nat.le_refl _) _⟩

set_option maxRecDepth 100000 in
set_option maxHeartbeats 400000 in
theorem indexFa_any (d : List Fa) (s : ByteArray) (bp : Nat) (v : Value) (w : World) (B : Nat) (hB : B ≤ w.heap.size) (hd : SlIn FaR 4 w B d v) (hbp : bp < w.heap.size) (hs : w.cell? ⟨bp, 0, none⟩ = some (.string s)) :
    Calls Tryz.prog 63 #[v, .func (.func 64) #[] #[.pointer (some ⟨bp, 0, none⟩)]] w fun e w' => e = .returned (.int .i64 (idxD d s)) ∧ Below w.heap.size w w' := by
  obtain ⟨ad, cd, rfl, d1, d2, _⟩ := SlIn.shape hd
  unfold maxLen at d2
  have HD := Lib.hid hd
  have HR : Hid (idxD d s = idxFrom (fun f => eqB f.name s) (d.drop 0) (0 : Nat)) := rfl
  generalize idxD d s = R at *
  clear hd
  go_enter Tryz.func63, Tryz.ntmps63
  go_wp2
  go_loopw [8] (fun i wr => ∃ k : Nat, k ≤ d.length ∧ i = .int .i64 k ∧ Hid (R = idxFrom (fun f => eqB f.name s) (d.drop k) k) ∧ Below w.heap.size w wr) (fun i _ => d.length - (intOf i).toNat)
  case atStart => exact ⟨0, by omega, rfl, HR, Below.refl _ _⟩
  case round =>
    obtain ⟨k, hk, rfl, hin, hb⟩ := hrel
    have hsz := hb.size
    by_cases hlt : k < d.length
    · obtain ⟨b, off, rfl, hbB, f0, f1, f2, f3, hz, wk, wl, wh⟩ := SlIn.at (HD.out.below FaR.kept (hb.mono hB)) k hlt
      have hsw := (hb.cell (p := ⟨bp, 0, none⟩) hbp).trans hs
      have hin2 := hin.out
      rw [idxFrom_drop _ d k hlt] at hin2
      generalize hfk : d[k] = f at *
      have C := Lib.hid (indexClosure_any f s bp wr (by omega) hsw)
      cases he : eqB f.name s with
      | true =>
        have HS := Lib.hid (show (k : Int) = R by rw [hin2, he]; rfl)
        clear hin2 hin HR hs hsw
        rw [he] at C
        go_wp2_with (go_at_call 64; refine C.out.mono ?_; rintro e w2 ⟨rfl, hb2⟩)
        go_ret
        exact ⟨ret_int HS.out, hb.trans (hb2.mono hsz)⟩
      | false =>
        have HS := Lib.hid (show R = idxFrom (fun f => eqB f.name s) (d.drop (k + 1)) ((k + 1 : Nat) : Int) by rw [hin2, he]; rfl)
        clear hin2 hin HR hs hsw
        rw [he] at C
        go_wp2_with (go_at_call 64; refine C.out.mono ?_; rintro e w2 ⟨rfl, hb2⟩)
        go_roundw
        case rel => exact ⟨k + 1, by omega, by go_num, HS, hb.trans (hb2.mono hsz)⟩
        case measure => simp [intOf]; omega
    · have HS := Lib.hid (show (-1 : Int) = R by
        have h0 := hin.out
        rw [List.drop_of_length_le (by omega)] at h0
        exact h0.symm)
      clear hin HR
      go_wp2
      go_ret
      exact ⟨ret_int HS.out, hb⟩

set_option maxRecDepth 100000 in
set_option maxHeartbeats 400000 in
theorem index_any (d : List Fa) (s : ByteArray) (v : Value) (w : World) (B : Nat) (hB : B ≤ w.heap.size) (hd : DomIn w B d v) :
    Calls Tryz.prog 38 #[v, .string s] w fun e w' => e = .returned (.int .i64 (idxD d s)) ∧ Below w.heap.size w w' := by
  obtain ⟨u, rfl, hd⟩ := hd
  obtain ⟨ad, cd, rfl, d1, d2, _⟩ := SlIn.shape hd
  have HD := Lib.hid hd
  clear hd
  go_enter Tryz.func38, Tryz.ntmps38
  go_wp2_with (go_at_call 63; refine (indexFa_any d s _ _ _ B ?_ ?_ ?_ ?_).mono ?_; (simp; omega); exact HD.out.below FaR.kept (((Below.refl _ _).alloc (by omega) _).alloc (by simp; omega) _); (simp); (go_simp); rintro e w2 ⟨rfl, hb2⟩)
  go_ret
  exact ⟨rfl, (((Below.refl _ _).alloc (Nat.le_refl _) _).alloc (by simp) _).trans (hb2.mono (by simp; omega))⟩

end Go.Proofs.YtihpoecdnchioaaGreatDoor
