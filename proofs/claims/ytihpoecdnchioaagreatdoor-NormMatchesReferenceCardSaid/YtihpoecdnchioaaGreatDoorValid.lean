/- The walk of fact.Valid: whether a domain is valid. No conditions. -/
import Derived.Test.YtihpoecdnchioaaGreatDoorName
import Derived.Test.YtihpoecdnchioaaGreatDoorMaps
import Derived.Deep.DeepCutAuto
namespace Go.Proofs.YtihpoecdnchioaaGreatDoor
open Go.RowKit

def flagB (f : Fa) : Bool := (f.kind == 1 && f.lo == 0) && f.hi == 1
def otherB (f : Fa) : Bool := (((f.kind == 2 || f.kind == 3) && decide (0 ≤ f.lo)) && decide (f.lo ≤ f.hi)) && decide (f.hi ≤ 1000000)
def seenL (d : List Fa) : List (ByteArray × Bool) := d.map fun f => (f.name, true)
/-- the facts from place k on are good, those before it having been seen -/
def okFrom : List Fa → List (ByteArray × Bool) → Bool
  | [], _ => true
  | f :: d, l => (flagB f || otherB f) && nameB f.name && (l.lookup f.name).isNone && okFrom d (l ++ [(f.name, true)])
def validD (d : List Fa) : Bool := okFrom d [] && decide (d.length ≤ 60)

theorem okFrom_drop (d : List Fa) (k : Nat) (h : k < d.length) :
    okFrom (d.drop k) (seenL (d.take k)) = ((flagB d[k] || otherB d[k]) && nameB d[k].name && ((seenL (d.take k)).lookup d[k].name).isNone && okFrom (d.drop (k + 1)) (seenL (d.take (k + 1)))) := by
  rw [List.drop_eq_getElem_cons h, okFrom, List.take_succ_eq_append_getElem h]
  simp only [seenL, List.map_append, List.map_cons, List.map_nil]

theorem seenL_true : ∀ (d : List Fa) (k : ByteArray) (x : Bool), (seenL d).lookup k = some x → x = true
  | [], _, _, h => by cases h
  | f :: d, k, x, h => by
    simp only [seenL, List.map_cons, List.lookup_cons] at h
    split at h
    · simpa using h.symm
    · exact seenL_true d k x h

theorem MapStr.key : KeyLaw Value.string Tryz.prog 9 := keyStr Tryz.underlying9
theorem zero_bool : ∀ w, (zeroValue 4).run Tryz.prog w = .ok (.bool false) w := Tryz.zeroValue4

set_option maxRecDepth 100000 in
set_option maxHeartbeats 1000000 in
theorem valid_any (d : List Fa) (v : Value) (w : World) (B : Nat) (hB : B ≤ w.heap.size) (hd : DomIn w B d v) :
    Calls Tryz.prog 43 #[v] w fun e w' => e = .returned (.bool (validD d)) ∧ Below w.heap.size w w' := by
  obtain ⟨u, rfl, hd⟩ := hd
  obtain ⟨ad, cd, rfl, d1, d2, _⟩ := SlIn.shape hd
  unfold maxLen at d2
  have HD := Lib.hid hd
  have HR : Hid (validD d = (okFrom (d.drop 0) (seenL (d.take 0)) && decide (d.length ≤ 60))) := rfl
  generalize validD d = R at *
  have hmm := @run_makeMap Tryz.prog
  clear hd
  go_enter Tryz.func43, Tryz.ntmps43
  go_wp2
  clear hmm
  go_loopw [12] (fun i wr => ∃ k : Nat, k ≤ d.length ∧ i = .int .i64 k ∧ Hid (R = (okFrom (d.drop k) (seenL (d.take k)) && decide (d.length ≤ 60))) ∧ Below w.heap.size w wr ∧ w.heap.size + 1 < wr.heap.size ∧
     MapIs Value.string Value.bool wr (w.heap.size + 1) (seenL (d.take k)) ∧ wr.cell? ⟨w.heap.size, 0, none⟩ = some (.slice ad d.length cd)) (fun i _ => d.length - (intOf i).toNat)
  case atStart =>
    exact ⟨0, by omega, rfl, HR, ((Below.refl _ _).alloc (Nat.le_refl _) _).alloc (by simp) _, by simp, by have := MapIs.made (ek := Value.string) (ev := Value.bool) (w.alloc (.cells #[.slice ad d.length cd] 24)); simpa [seenL] using this, by go_simp⟩
  case round =>
    obtain ⟨k, hk, rfl, hin, hb, hsz, hmap, hc0⟩ := hrel
    clear HR
    by_cases hlt : k < d.length
    · obtain ⟨b, off, rfl, hbB, f0, f1, f2, f3, hz, wk, wl, wh⟩ := SlIn.at (HD.out.below FaR.kept (hb.mono hB)) k hlt
      have ho := okFrom_drop d k hlt
      have hin2 := hin.out
      rw [ho] at hin2
      generalize hfk : d[k] = f at *
      have HI := Lib.hid hin2
      have HFK := Lib.hid hfk
      clear ho hin2 hfk hin
      go_upto_region 5 with (fail)
      go_cut [6] (fun s6 wx => s6 = .bool (flagB f) ∧ wx = wr.alloc (.cells #[.string f.name, .int .i64 f.kind, .int .i64 f.lo, .int .i64 f.hi] 90))
      case first =>
        cases a1 : (f.kind == 1) <;> cases a2 : (f.lo == 0) <;> cases a3 : (f.hi == 1)
        all_goals (go_wp2; go_meet; exact ⟨by simp [flagB, a1, a2, a3], rfl⟩)
      case rest =>
        obtain ⟨rfl, rfl⟩ := hcut
        go_upto_region 6 with (fail)
        go_cut [7] (fun s7 wx => s7 = .bool (otherB f) ∧ wx = wr.alloc (.cells #[.string f.name, .int .i64 f.kind, .int .i64 f.lo, .int .i64 f.hi] 90))
        case first =>
          cases a1 : (f.kind == 2) <;> cases a2 : (f.kind == 3) <;> cases a3 : decide (0 ≤ f.lo) <;> cases a4 : decide (f.lo ≤ f.hi) <;> cases a5 : decide (f.hi ≤ 1000000)
          all_goals (go_wp2; go_meet; exact ⟨by simp only [otherB, a1, a2, a3, a4, a5]; rfl, rfl⟩)
        case rest =>
          obtain ⟨rfl, rfl⟩ := hcut
          have hmap2 := hmap.alloc (.cells #[.string f.name, .int .i64 f.kind, .int .i64 f.lo, .int .i64 f.hi] 90)
          have hlk := run_look MapStr.key Tryz.underlying115 zero_bool hmap2 f.name
          have hbb := hb.alloc (by omega) (.cells #[.string f.name, .int .i64 f.kind, .int .i64 f.lo, .int .i64 f.hi] 90)
          have HB := Lib.hid hbb
          have HM := Lib.hid hmap2
          clear hbb hmap2 hmap hb
          cases c0 : (flagB f || otherB f) with
          | false =>
            have HS := Lib.hid (show R = false by have := HI.out; rw [c0] at this; simpa using this)
            obtain ⟨c1, c2⟩ := Bool.or_eq_false_iff.1 c0
            clear hlk c0
            go_wp2
            go_ret
            exact ⟨ret_bool HS.out.symm, HB.out⟩
          | true =>
            cases c3 : nameB f.name with
            | false =>
              have HS := Lib.hid (show R = false by have := HI.out; rw [c3] at this; simpa using this)
              cases c1 : flagB f <;> cases c2 : otherB f <;> first | (rw [c1, c2] at c0; cases c0) | skip
              all_goals
                clear hlk
                go_wp2_with (go_at_call 67; refine (isName_any f.name _ hz).mono ?_; rintro e w2 ⟨rfl, rfl⟩)
                go_ret
                exact ⟨ret_bool HS.out.symm, HB.out⟩
            | true =>
              cases c4 : (seenL (d.take k)).lookup f.name with
              | some x =>
                have hx : x = true := seenL_true _ _ _ c4
                subst hx
                rw [c4] at hlk
                have HS := Lib.hid (show R = false by have := HI.out; rw [c4] at this; simpa using this)
                cases c1 : flagB f <;> cases c2 : otherB f <;> first | (rw [c1, c2] at c0; cases c0) | skip
                all_goals
                  go_wp2_with (go_at_call 67; refine (isName_any f.name _ hz).mono ?_; rintro e w2 ⟨rfl, rfl⟩)
                  go_ret
                  exact ⟨ret_bool HS.out.symm, HB.out⟩
              | none =>
                rw [c4] at hlk
                have HN := Lib.hid (show R = (okFrom (d.drop (k + 1)) (seenL (d.take (k + 1))) && decide (d.length ≤ 60)) by have := HI.out; rw [c0, c3, c4] at this; simpa using this)
                have HIN : Hid (ins (seenL (d.take k)) f.name true = seenL (d.take (k + 1))) := by
                  have h1 := ins_none (seenL (d.take k)) f.name true c4
                  show _ = _
                  rw [h1, List.take_succ_eq_append_getElem hlt]
                  simp only [seenL, List.map_append, List.map_cons, List.map_nil, HFK.out]
                cases c1 : flagB f <;> cases c2 : otherB f <;> first | (rw [c1, c2] at c0; cases c0) | skip
                all_goals
                  clear c4
                  go_wp2_with (first
                    | (go_at_call 67; refine (isName_any f.name _ hz).mono ?_; rintro e w2 ⟨rfl, rfl⟩)
                    | ((with_reducible show wpList _ _ _ (⟨_, Op.mapUpdate 115 _ _ _, _, _, _, _⟩ :: _) _ _); refine wpList_put rfl (.tmp 72) (.tmp 74) (.const (.bool true)) rfl MapStr.key Tryz.underlying115 HM.out f.name true rfl rfl rfl ?_; intro W3 hm3 hu3))
                  go_roundw
                  case rel =>
                    refine ⟨k + 1, by omega, by go_num, HN, HB.out.trans (hu3.below (by omega)), by rw [hu3.size]; simp; omega, by rw [← HIN.out]; exact hm3, ?_⟩
                    rw [hu3.cell (p := ⟨w.heap.size, 0, none⟩) (by simp), World.cell?_alloc_past _ _ _ (by omega)]
                    exact hc0
                  case measure => simp [intOf]; omega
    · have HS := Lib.hid (show R = decide (d.length ≤ 60) by
        have := hin.out
        rw [List.drop_of_length_le (by omega), okFrom] at this
        simpa using this)
      clear hin hmap
      by_cases h60 : d.length ≤ 60
      · have h60' : (d.length : Int) ≤ 60 := by omega
        rw [decide_eq_true h60] at HS
        go_wp2
        go_ret
        exact ⟨ret_bool HS.out.symm, hb⟩
      · have h60' : decide ((d.length : Int) ≤ 60) = false := by simp; omega
        rw [decide_eq_false h60] at HS
        clear h60
        go_wp2
        go_ret
        exact ⟨ret_bool HS.out.symm, hb⟩

end Go.Proofs.YtihpoecdnchioaaGreatDoor
