/- lexer.tokens: its three cells and the iterator. -/
import Derived.Test.YtihpoecdnchioaaGreatDoorTok2
namespace Go.Proofs.YtihpoecdnchioaaGreatDoor
open Go.RowKit

theorem run_store_func {P : Program} {w : World} {a : Addr} {m : Mode} (f : Fn) (x y : Array Value) : (store a (.func f x y) m).run P w = stored P w a (.func f x y) m := Go.run_store P w a _ m rfl
attribute [local go_sem] run_store_func

set_option maxRecDepth 100000 in
set_option maxHeartbeats 1000000 in
theorem tokens_any (s : ByteArray) (w : World) :
    Calls Tryz.prog 119 #[.string s] w fun e w' => ∃ bt bc ba, e = .returned (.func (.func 126) #[] #[.pointer (some ⟨bt, 0, none⟩), .pointer (some ⟨ba, 0, none⟩)]) ∧ EnvL s bt bc ba w' ∧ w.heap.size ≤ bt ∧ w.heap.size ≤ bc ∧ w.heap.size ≤ ba ∧ Below w.heap.size w w' := by
  go_enter Tryz.func119, Tryz.ntmps119
  go_wp2_with (first
    | (go_at_call 124; (with_reducible refine (classes_any _).mono ?_); rintro e w2 ⟨rfl, hb2⟩
       have c0 := (hb2.cell (p := ⟨w.heap.size, 0, none⟩) (by simp)).trans (show _ = some (.string s) by simp)
       have hb2' := Lib.hid (((Below.refl w.heap.size w).alloc (Nat.le_refl _) (.cells #[.string s] 9)).trans (hb2.mono (by simp)))
       have hs2 := hb2.size
       simp only [World.size_alloc] at hs2
       clear hb2)
    | (((with_reducible show wpList _ _ _ (⟨some 3, Op.alloc 162, _, _, _, _⟩ :: _) _ _); refine wpList_alloc_row rfl rfl zArr 256 zArr.info ?_; intro W3 hb3 hz3 hr3)
       have c3 := (hb3.cell (p := ⟨w.heap.size, 0, none⟩) (by simp; omega)).trans c0
       have HZ3 := Lib.hid hz3
       clear hz3)
    | ((with_reducible show wpList _ _ _ (⟨_, Op.store 162 (.tmp 3) (.tmp 5), _, _, _, _⟩ :: _) _ _); refine wpList_store_old rfl (.tmp 3) (.tmp 5) rfl clsL _ rfl rfl hr3 clsL_len.symm clsL_info clsL_one ?_; intro W5 hu5 hr5
       have HZ5 := Lib.hid (hu5.size.trans HZ3.out)
       have hb5 := Lib.hid (hb2'.out.trans ((hb3.mono (by omega)).trans (hu5.below (by omega))))
       have c5 := ((hu5.below (B := w2.heap.size) (by omega)).cell (p := ⟨w.heap.size, 0, none⟩) (by simp; omega)).trans c3
       have HR5 := Lib.hid hr5
       clear hr5 hr3 hb3 hu5 c0 c3))
  have hz5 := HZ5.out
  have hB6 : Below W5.heap.size W5 (W5.alloc (.cells #[atV w.heap.size w2.heap.size] 164)) := (Below.refl _ _).alloc (Nat.le_refl _) _
  go_ret
  refine ⟨w.heap.size, w2.heap.size, W5.heap.size, rfl, ⟨⟨?_, ?_, ?_⟩, ?_, ?_, ?_⟩, Nat.le_refl _, by omega, by omega, ?_⟩
  · exact (hB6.cell (p := ⟨w.heap.size, 0, none⟩) (by simp; omega)).trans c5
  · exact fun j v hv => (hB6.cell (p := ⟨w2.heap.size, 0 + j, none⟩) (by simp; omega)).trans (HR5.out j v hv)
  · simp [atV]
  · simp; omega
  · simp; omega
  · simp
  · exact hb5.out.trans (hB6.mono (by omega))

end Go.Proofs.YtihpoecdnchioaaGreatDoor
