/-
  Contracts of the functions that the law 'Names' calls: SameInts at two slices that hold the same numbers; plain.Code at nil, at a *Fault around one of the eight errors, at one of the eight, at another errors.New error; coded. Condition ('Env'): the eight variables hold pointers to different errors in unfrozen rows, and errors.errorType the handle of the type 'error'.
-/
import Derived.Test.YtfldkpagnodeeaaDoorErrs
import Derived.LoopTactic
import Derived.Deep.QuietTactic
import Derived.BigQuiet
import Derived.Handy
import Derived.IntWalk
import Derived.Lib.Hide
namespace Go.Proofs.YtfldkpagnodeeaaDoor
open Go.RowKit Go.Extern.Stop Go.Stop Go.Extern

structure Env (A : Nat → Addr) (S : Nat → ByteArray) (W : World) : Prop where
  var : ∀ j, j < 8 → W.cell? ⟨j, 0, none⟩ = some (.iface 40 (.pointer (some (A j))))
  str : ∀ j, j < 8 → W.cell? (A j) = some (.string (S j))
  row : ∀ j, j < 8 → ∃ c t, W.heap[(A j).block]? = some (.cells c t (0, 0))
  inj : ∀ i j, i < 8 → j < 8 → i ≠ j → A i ≠ A j
  handle : W.cell? ⟨8, 0, none⟩ = some (.iface 58 (.agg #[.pointer (some ⟨9, 25, none⟩)]))

theorem lt_of_cell {W : World} {a : Addr} {v : Value} (h : W.cell? a = some v) : a.block < W.heap.size := by
  rcases Nat.lt_or_ge a.block W.heap.size with h' | h'
  · exact h'
  · simp [World.cell?, Array.getElem?_eq_none h'] at h

theorem Env.below {A : Nat → Addr} {S : Nat → ByteArray} {W W' : World} (E : Env A S W) (hb : Below W.heap.size W W') : Env A S W' where
  var j hj := (hb.cell (p := ⟨j, 0, none⟩) (lt_of_cell (E.var j hj))).trans (E.var j hj)
  str j hj := (hb.cell (lt_of_cell (E.str j hj))).trans (E.str j hj)
  row j hj := by
    obtain ⟨c, t, h⟩ := E.row j hj
    exact ⟨c, t, (hb.block _ (lt_of_cell (E.str j hj))).trans h⟩
  inj := E.inj
  handle := (hb.cell (p := ⟨8, 0, none⟩) (lt_of_cell E.handle)).trans E.handle

/-- SameInts at two slices that hold the same numbers. -/
theorem same_ints (b1 b2 n : Nat) (z : Nat → Int) (w : World) (hn : n ≤ 1000) (h1 : ∀ j, j < n → w.cell? ⟨b1, j, none⟩ = some (.int .i64 (z j))) (h2 : ∀ j, j < n → w.cell? ⟨b2, j, none⟩ = some (.int .i64 (z j))) :
    Calls Tryd.prog 4 #[.slice (some ⟨b1, 0, none⟩) n n, .slice (some ⟨b2, 0, none⟩) n n] w fun e w' => e = .returned (.bool true) ∧ ∃ q, w' = w.drewN q := by
  have H1 := Lib.hid h1
  have H2 := Lib.hid h2
  clear h1 h2
  go_enter Tryd.func4, Tryd.ntmps4
  go_wp2
  go_loopw [5] (fun i wr => ∃ k : Nat, k ≤ n ∧ i = .int .i64 k ∧ ∃ q, wr = w.drewN q) (fun i _ => n - (intOf i).toNat)
  case atStart => exact ⟨0, Nat.zero_le _, rfl, 0, rfl⟩
  case round =>
    obtain ⟨k, hk, rfl, q, rfl⟩ := hrel
    by_cases hlt : k < n
    · have c1 := H1.out k hlt
      have c2 := H2.out k hlt
      go_wp2
      go_quiet (fail)
      go_wp2
      go_roundw
      case rel => exact ⟨k + 1, by omega, by go_num, _, rfl⟩
      case measure => simp [intOf]; omega
    · go_wp2
      go_ret
      exact ⟨rfl, _, rfl⟩

/-- errors.As at a *Fault, the world by what it still holds: all below block n, where the target lies at n or above. -/
theorem as_hit_below (e t : Addr) (old : Value) (n : Nat) (w : World) (hn : n ≤ t.block) (hg : w.cell? ⟨8, 0, none⟩ = some (.iface 58 (.agg #[.pointer (some ⟨9, 25, none⟩)]))) (ht0 : w.cell? t = some old) (hf0 : w.frozen? t = false) :
    Calls Tryd.prog 8 #[.iface 30 (.pointer (some e)), .iface 38 (.pointer (some t))] w fun ev w' => ev = .returned (.bool true) ∧ Below n w w' ∧ w'.cell? t = some (.pointer (some e)) := by
  have htl : t.block < w.heap.size := lt_of_cell ht0
  refine (as_hit e t old w hg ht0 hf0).mono fun ev w' ⟨he, hw⟩ => ⟨he, ?_, ?_⟩
  · subst hw
    exact (((((Below.refl _ _).alloc (by omega) _).alloc (by simp; omega) _).alloc (by simp; omega) _).alloc (by simp; omega) _).setCell hn _
  · subst hw
    refine World.cell?_setCell_same' _ _ _ ?_
    rw [World.cell?_alloc_lt _ _ t (by simp; omega), World.cell?_alloc_lt _ _ t (by simp; omega), World.cell?_alloc_lt _ _ t (by simp; omega), World.cell?_alloc_lt _ _ t htl, ht0]
    rfl

theorem as_miss_below (e t : Addr) (w : World) (hg : w.cell? ⟨8, 0, none⟩ = some (.iface 58 (.agg #[.pointer (some ⟨9, 25, none⟩)]))) :
    Calls Tryd.prog 8 #[.iface 40 (.pointer (some e)), .iface 38 (.pointer (some t))] w fun ev w' => ev = .returned (.bool false) ∧ Below w.heap.size w w' := by
  refine (as_miss e t w hg).mono fun ev w' ⟨he, hw⟩ => ⟨he, ?_⟩
  subst hw
  exact (((Below.refl _ _).alloc (Nat.le_refl _) _).alloc (by simp) _).alloc (by simp; omega) _

theorem code_nil (w : World) :
    Calls Tryd.prog 5 #[.nilIface] w fun e w' => e = .returned (.tuple #[.int .i64 0, .int .i64 (-1)]) ∧ w' = w := by
  go_enter Tryd.func5, Tryd.ntmps5
  go_wp2
  go_ret2
  exact ⟨rfl, rfl⟩


/-- The eight errors as the list literal holds them. -/
def eight (A : Nat → Addr) : Array Value := #[.iface 40 (.pointer (some (A 0))), .iface 40 (.pointer (some (A 1))), .iface 40 (.pointer (some (A 2))), .iface 40 (.pointer (some (A 3))), .iface 40 (.pointer (some (A 4))), .iface 40 (.pointer (some (A 5))), .iface 40 (.pointer (some (A 6))), .iface 40 (.pointer (some (A 7)))]
theorem eight_at (A : Nat → Addr) (W : World) (j : Nat) (hj : j < 8) : (W.alloc (.cells (eight A) 25)).cell? ⟨W.heap.size, j, none⟩ = some (.iface 40 (.pointer (some (A j)))) := by
  rcases j with _ | _ | _ | _ | _ | _ | _ | _ | j
  all_goals first | omega | (simp [eight])

theorem eight_get (A : Nat → Addr) (j : Nat) (hj : j < 8) (h : j < [Value.iface 40 (.pointer (some (A 0))), .iface 40 (.pointer (some (A 1))), .iface 40 (.pointer (some (A 2))), .iface 40 (.pointer (some (A 3))), .iface 40 (.pointer (some (A 4))), .iface 40 (.pointer (some (A 5))), .iface 40 (.pointer (some (A 6))), .iface 40 (.pointer (some (A 7)))].length) :
    [Value.iface 40 (.pointer (some (A 0))), .iface 40 (.pointer (some (A 1))), .iface 40 (.pointer (some (A 2))), .iface 40 (.pointer (some (A 3))), .iface 40 (.pointer (some (A 4))), .iface 40 (.pointer (some (A 5))), .iface 40 (.pointer (some (A 6))), .iface 40 (.pointer (some (A 7)))][j] = .iface 40 (.pointer (some (A j))) := by
  rcases j with _ | _ | _ | _ | _ | _ | _ | _ | j
  all_goals first | omega | rfl

/-- What errors.Is answers at an error x, asked for each of the eight: yes at the k-th alone. -/
def IsAt (A : Nat → Addr) (x : Value) (k : Nat) (W : World) : Prop := ∀ j, j < 8 → Calls Tryd.prog 9 #[x, .iface 40 (.pointer (some (A j)))] W fun e w' => e = .returned (.bool (decide (j = k))) ∧ w' = W

theorem isAt_fault {A : Nat → Addr} {S : Nat → ByteArray} {W : World} (E : Env A S W) (b k : Nat) (hk : k < 8) (h1 : W.cell? ⟨b, 1, none⟩ = some (.iface 40 (.pointer (some (A k))))) :
    IsAt A (.iface 30 (.pointer (some ⟨b, 0, none⟩))) k W := by
  intro j hj
  by_cases e : j = k
  · subst e
    rw [decide_eq_true rfl]
    exact is_fault_same b 0 (A j) W h1
  · rw [decide_eq_false e]
    obtain ⟨c, t, hr⟩ := E.row k hk
    obtain ⟨c', t', hr'⟩ := E.row j hj
    exact is_fault_other b 0 (A k) (A j) c c' t t' W h1 (fun he => E.inj k j hk hj (fun h => e h.symm) he) hr hr'

theorem isAt_own {A : Nat → Addr} {S : Nat → ByteArray} {W : World} (E : Env A S W) (k : Nat) (hk : k < 8) :
    IsAt A (.iface 40 (.pointer (some (A k)))) k W := by
  intro j hj
  by_cases e : j = k
  · subst e
    rw [decide_eq_true rfl]
    exact is_same (A j) W
  · rw [decide_eq_false e]
    obtain ⟨c, t, hr⟩ := E.row k hk
    obtain ⟨c', t', hr'⟩ := E.row j hj
    exact is_other (A k) (A j) c c' t t' W (fun he => E.inj k j hk hj (fun h => e h.symm) he) hr hr'

theorem isAt_other {A : Nat → Addr} {S : Nat → ByteArray} {W : World} (E : Env A S W) (a : Addr) (c : Array Value) (t : TypeId) (ha : W.heap[a.block]? = some (.cells c t (0, 0))) (hne : ∀ j, j < 8 → a ≠ A j) :
    IsAt A (.iface 40 (.pointer (some a))) 8 W := by
  intro j hj
  rw [decide_eq_false (by omega)]
  obtain ⟨c', t', hr'⟩ := E.row j hj
  exact is_other a (A j) c c' t t' W (hne j hj) ha hr'

set_option maxHeartbeats 1000000 in
theorem code_fault (A : Nat → Addr) (S : Nat → ByteArray) (b k : Nat) (hk : k < 8) (w : World) (E : Env A S w)
    (h0 : w.cell? ⟨b, 0, none⟩ = some (.int .i64 7)) (h1 : w.cell? ⟨b, 1, none⟩ = some (.iface 40 (.pointer (some (A k))))) :
    Calls Tryd.prog 5 #[.iface 30 (.pointer (some ⟨b, 0, none⟩))] w fun e w' => e = .returned (.tuple #[.int .i64 (k + 1), .int .i64 7]) ∧ Below w.heap.size w w' := by
  have hg := E.handle
  have hlt : 8 < w.heap.size := lt_of_cell hg
  have hb : b < w.heap.size := lt_of_cell h0
  have hgA : (w.alloc (.cells #[.pointer none] 30)).cell? ⟨8, 0, none⟩ = some (.iface 58 (.agg #[.pointer (some ⟨9, 25, none⟩)])) := by
    rw [World.cell?_alloc_lt _ _ ⟨8, 0, none⟩ hlt]; exact hg
  have htA : (w.alloc (.cells #[.pointer none] 30)).cell? ⟨w.heap.size, 0, none⟩ = some (.pointer none) := by simp
  have hfA : (w.alloc (.cells #[.pointer none] 30)).frozen? ⟨w.heap.size, 0, none⟩ = false := by simp
  have HE : Hid (Env A S w) := Lib.hid E
  clear E hg
  go_enter Tryd.func5, Tryd.ntmps5
  go_wp2_with fail
  refine (as_hit_below _ _ (.pointer none) w.heap.size _ (Nat.le_refl _) hgA htA hfA).mono ?_
  rintro e W1 ⟨rfl, hb1, ht1⟩
  have hb2 : Below w.heap.size w W1 := ((Below.refl _ _).alloc (Nat.le_refl _) _).trans hb1
  have E1 : Env A S W1 := HE.out.below hb2
  have f0 : W1.cell? ⟨b, 0, none⟩ = some (.int .i64 7) := (hb2.cell (p := ⟨b, 0, none⟩) hb).trans h0
  have f1 : W1.cell? ⟨b, 1, none⟩ = some (.iface 40 (.pointer (some (A k)))) := (hb2.cell (p := ⟨b, 1, none⟩) hb).trans h1
  have g0 := E1.var 0 (by omega)
  have g1 := E1.var 1 (by omega)
  have g2 := E1.var 2 (by omega)
  have g3 := E1.var 3 (by omega)
  have g4 := E1.var 4 (by omega)
  have g5 := E1.var 5 (by omega)
  have g6 := E1.var 6 (by omega)
  have g7 := E1.var 7 (by omega)
  have hb3 : Below W1.heap.size W1 (W1.alloc (.cells (eight A) 25)) := (Below.refl _ _).alloc (Nat.le_refl _) _
  have HI := Lib.hid (isAt_fault (E1.below hb3) b k hk ((hb3.cell (p := ⟨b, 1, none⟩) (lt_of_cell f1)).trans f1))
  have HB := Lib.hid (hb2.trans (hb3.mono hb2.size))
  unfold eight at HI HB
  clear HE E1 hb1 hb2 hb3 hgA htA hfA h0 h1
  go_wp2_with fail
  go_loop [3, 26] (fun p i => ∃ j : Nat, j ≤ k ∧ i = .int .i64 j ∧ p = .int .i64 7) (fun _ i => 8 - (intOf i).toNat)
  case atStart => exact ⟨0, Nat.zero_le _, rfl, rfl⟩
  case round =>
    obtain ⟨j, hj, rfl, rfl⟩ := hrel
    have hj8 : j < 8 := by omega
    by_cases he : j = k
    · have HD := Lib.hid (decide_eq_true he)
      have HJ := Lib.hid he
      clear he
      go_wp2_with fail
      rw [eight_get A j hj8]
      refine (HI.out j hj8).mono ?_
      rintro e w' ⟨rfl, rfl⟩
      rw [HD.out]
      go_wp2
      go_ret2
      exact ⟨by rw [HJ.out]; rfl, HB.out⟩
    · have HD := Lib.hid (decide_eq_false he)
      clear he
      go_wp2_with fail
      rw [eight_get A j hj8]
      refine (HI.out j hj8).mono ?_
      rintro e w' ⟨rfl, rfl⟩
      rw [HD.out]
      have hlt2 : j < k := by have := HD.out; simp at this; omega
      go_wp2
      go_round
      case rel => exact ⟨j + 1, by omega, by go_num, rfl⟩
      case measure => simp [intOf]; omega

set_option maxHeartbeats 1000000 in
theorem code_found (A : Nat → Addr) (S : Nat → ByteArray) (a : Addr) (k : Nat) (hk : k < 8) (w : World) (E : Env A S w)
    (hI : ∀ W', Below w.heap.size w W' → Env A S W' → IsAt A (.iface 40 (.pointer (some a))) k W') :
    Calls Tryd.prog 5 #[.iface 40 (.pointer (some a))] w fun e w' => e = .returned (.tuple #[.int .i64 (k + 1), .int .i64 (-1)]) ∧ Below w.heap.size w w' := by
  have hg := E.handle
  have hlt : 8 < w.heap.size := lt_of_cell hg
  have hgA : (w.alloc (.cells #[.pointer none] 30)).cell? ⟨8, 0, none⟩ = some (.iface 58 (.agg #[.pointer (some ⟨9, 25, none⟩)])) := by
    rw [World.cell?_alloc_lt _ _ ⟨8, 0, none⟩ hlt]; exact hg
  have HE : Hid (Env A S w) := Lib.hid E
  have HI0 := Lib.hid hI
  clear E hg hI
  go_enter Tryd.func5, Tryd.ntmps5
  go_wp2_with fail
  refine (as_miss_below _ _ _ hgA).mono ?_
  rintro e W1 ⟨rfl, hb1⟩
  have hb2 : Below w.heap.size w W1 := ((Below.refl _ _).alloc (Nat.le_refl _) _).trans (hb1.mono (by simp))
  have E1 : Env A S W1 := HE.out.below hb2
  have g0 := E1.var 0 (by omega)
  have g1 := E1.var 1 (by omega)
  have g2 := E1.var 2 (by omega)
  have g3 := E1.var 3 (by omega)
  have g4 := E1.var 4 (by omega)
  have g5 := E1.var 5 (by omega)
  have g6 := E1.var 6 (by omega)
  have g7 := E1.var 7 (by omega)
  have hb3 : Below W1.heap.size W1 (W1.alloc (.cells (eight A) 25)) := (Below.refl _ _).alloc (Nat.le_refl _) _
  have HB := Lib.hid (hb2.trans (hb3.mono hb2.size))
  have HI := Lib.hid (HI0.out _ HB.out (E1.below hb3))
  unfold eight at HI HB
  clear HE E1 hb1 hb2 hb3 hgA HI0
  go_wp2_with fail
  go_loop [3, 26] (fun p i => ∃ j : Nat, j ≤ k ∧ i = .int .i64 j ∧ p = .int .i64 (-1)) (fun _ i => 8 - (intOf i).toNat)
  case atStart => exact ⟨0, Nat.zero_le _, rfl, rfl⟩
  case round =>
    obtain ⟨j, hj, rfl, rfl⟩ := hrel
    have hj8 : j < 8 := by omega
    by_cases he : j = k
    · have HD := Lib.hid (decide_eq_true he)
      have HJ := Lib.hid he
      clear he
      go_wp2_with fail
      rw [eight_get A j hj8]
      refine (HI.out j hj8).mono ?_
      rintro e w' ⟨rfl, rfl⟩
      rw [HD.out]
      go_wp2
      go_ret2
      exact ⟨by rw [HJ.out]; rfl, HB.out⟩
    · have HD := Lib.hid (decide_eq_false he)
      clear he
      go_wp2_with fail
      rw [eight_get A j hj8]
      refine (HI.out j hj8).mono ?_
      rintro e w' ⟨rfl, rfl⟩
      rw [HD.out]
      have hlt2 : j < k := by have := HD.out; simp at this; omega
      go_wp2
      go_round
      case rel => exact ⟨j + 1, by omega, by go_num, rfl⟩
      case measure => simp [intOf]; omega

set_option maxHeartbeats 1000000 in
theorem code_none (A : Nat → Addr) (S : Nat → ByteArray) (a : Addr) (w : World) (E : Env A S w)
    (hI : ∀ W', Below w.heap.size w W' → Env A S W' → IsAt A (.iface 40 (.pointer (some a))) 8 W') :
    Calls Tryd.prog 5 #[.iface 40 (.pointer (some a))] w fun e w' => e = .returned (.tuple #[.int .i64 (-1), .int .i64 (-1)]) ∧ Below w.heap.size w w' := by
  have hg := E.handle
  have hlt : 8 < w.heap.size := lt_of_cell hg
  have hgA : (w.alloc (.cells #[.pointer none] 30)).cell? ⟨8, 0, none⟩ = some (.iface 58 (.agg #[.pointer (some ⟨9, 25, none⟩)])) := by
    rw [World.cell?_alloc_lt _ _ ⟨8, 0, none⟩ hlt]; exact hg
  have HE : Hid (Env A S w) := Lib.hid E
  have HI0 := Lib.hid hI
  clear E hg hI
  go_enter Tryd.func5, Tryd.ntmps5
  go_wp2_with fail
  refine (as_miss_below _ _ _ hgA).mono ?_
  rintro e W1 ⟨rfl, hb1⟩
  have hb2 : Below w.heap.size w W1 := ((Below.refl _ _).alloc (Nat.le_refl _) _).trans (hb1.mono (by simp))
  have E1 : Env A S W1 := HE.out.below hb2
  have g0 := E1.var 0 (by omega)
  have g1 := E1.var 1 (by omega)
  have g2 := E1.var 2 (by omega)
  have g3 := E1.var 3 (by omega)
  have g4 := E1.var 4 (by omega)
  have g5 := E1.var 5 (by omega)
  have g6 := E1.var 6 (by omega)
  have g7 := E1.var 7 (by omega)
  have hb3 : Below W1.heap.size W1 (W1.alloc (.cells (eight A) 25)) := (Below.refl _ _).alloc (Nat.le_refl _) _
  have HB := Lib.hid (hb2.trans (hb3.mono hb2.size))
  have HI := Lib.hid (HI0.out _ HB.out (E1.below hb3))
  unfold eight at HI HB
  clear HE E1 hb1 hb2 hb3 hgA HI0
  go_wp2_with fail
  go_loop [3, 26] (fun p i => ∃ j : Nat, j ≤ 8 ∧ i = .int .i64 j ∧ p = .int .i64 (-1)) (fun _ i => 8 - (intOf i).toNat)
  case atStart => exact ⟨0, Nat.zero_le _, rfl, rfl⟩
  case round =>
    obtain ⟨j, hj, rfl, rfl⟩ := hrel
    by_cases hj8 : j < 8
    · have HD := Lib.hid (decide_eq_false (show ¬ j = 8 by omega))
      go_wp2_with fail
      rw [eight_get A j hj8]
      refine (HI.out j hj8).mono ?_
      rintro e w' ⟨rfl, rfl⟩
      rw [HD.out]
      go_wp2
      go_round
      case rel => exact ⟨j + 1, by omega, by go_num, rfl⟩
      case measure => simp [intOf]; omega
    · go_wp2
      go_ret2
      exact ⟨rfl, HB.out⟩

/-- coded: is the error's number this one, and no place told? -/
theorem coded_of (x : Value) (c : Int) (w : World)
    (h : Calls Tryd.prog 5 #[x] w fun e w' => e = .returned (.tuple #[.int .i64 c, .int .i64 (-1)]) ∧ Below w.heap.size w w') :
    Calls Tryd.prog 6 #[x, .int .i64 c] w fun e w' => e = .returned (.bool true) ∧ Below w.heap.size w w' := by
  have H := Lib.hid h
  have hcc : (c == c) = true := beq_self_eq_true c
  clear h
  go_enter Tryd.func6, Tryd.ntmps6
  go_wp2_with fail
  refine H.out.mono ?_
  rintro e W1 ⟨rfl, hb⟩
  go_wp2
  go_ret
  exact ⟨rfl, hb⟩
end Go.Proofs.YtfldkpagnodeeaaDoor
