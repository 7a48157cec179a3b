/-
  The walk of the law 'Names': it returns true, and what was in memory stays. Conditions: 'Env' (the eight variables, the handle), and each of the eight errors' text is 'demon: ' and its word.
-/
import Derived.Test.YtfldkpagnodeeaaDoorSteps
import Derived.Deep.RegionHeld3
import Derived.WalkSmall
import Derived.Laws.Concat
namespace Go.Proofs.YtfldkpagnodeeaaDoor
open Go.RowKit Go.Extern.Stop Go.Stop Go.Extern

/-- The words behind 'demon: ', as the law's list has them. -/
def word : Nat → ByteArray
  | 0 => ⟨#[116, 101, 120, 116]⟩
  | 1 => ⟨#[98, 111, 117, 110, 100]⟩
  | 2 => ⟨#[115, 104, 97, 112, 101]⟩
  | 3 => ⟨#[122, 101, 114, 111]⟩
  | 4 => ⟨#[110, 97, 109, 101]⟩
  | 5 => ⟨#[110, 111, 110, 101]⟩
  | 6 => ⟨#[111, 114, 100, 101, 114]⟩
  | _ => ⟨#[107, 105, 110, 100]⟩


def nums : List Int := [1000000, 1000000, 1099511627776, 40000, 4611686018427387904, 1073741824, 16, 4096, 8, 200, 64, 200, 4000, 24, 4, 20, 16, 14, 30, 997, 40, 24, 400, 12, 16]
theorem nums_at (W : World) (j : Nat) (hj : j < 25) : (W.alloc (.cells (nums.map (Value.int .i64)).toArray 3)).cell? ⟨W.heap.size, j, none⟩ = some (.int .i64 (nums.getD j 0)) := by
  have hl : j < nums.length := hj
  rw [World.cell?_alloc_at _ _ _ _ rfl]
  simp [List.getD_eq_getElem?_getD, hl]
def words : Array Value := #[.string (word 0), .string (word 1), .string (word 2), .string (word 3), .string (word 4), .string (word 5), .string (word 6), .string (word 7)]
theorem words_at (W : World) (j : Nat) (hj : j < 8) : (W.alloc (.cells words 9)).cell? ⟨W.heap.size, j, none⟩ = some (.string (word j)) := by
  rcases j with _ | _ | _ | _ | _ | _ | _ | _ | j
  all_goals first | omega | (simp [words])

/-- What stays through the law's loop. -/
structure Stay (A : Nat → Addr) (S : Nat → ByteArray) (be bt : Nat) (w0 wr : World) : Prop where
  env : Env A S wr
  errs : ∀ j, j < 8 → wr.cell? ⟨be, j, none⟩ = some (.iface 40 (.pointer (some (A j))))
  wrds : ∀ j, j < 8 → wr.cell? ⟨bt, j, none⟩ = some (.string (word j))
  low : Below w0.heap.size w0 wr
theorem Stay.next {A : Nat → Addr} {S : Nat → ByteArray} {be bt : Nat} {w0 wr wr' : World} (h : Stay A S be bt w0 wr) (hb : Below wr.heap.size wr wr') : Stay A S be bt w0 wr' where
  env := h.env.below hb
  errs j hj := (hb.cell (p := ⟨be, j, none⟩) (lt_of_cell (h.errs j hj))).trans (h.errs j hj)
  wrds j hj := (hb.cell (p := ⟨bt, j, none⟩) (lt_of_cell (h.wrds j hj))).trans (h.wrds j hj)
  low := h.low.trans (hb.mono h.low.size)
theorem stay_start {A : Nat → Addr} {S : Nat → ByteArray} {w0 W : World} (E : Env A S W) (hb : Below w0.heap.size w0 W) : Stay A S W.heap.size (W.heap.size + 1) w0 ((W.alloc (.cells (eight A) 25)).alloc (.cells words 9)) where
  env := E.below (((Below.refl _ _).alloc (Nat.le_refl _) _).alloc (by simp) _)
  errs j hj := by rw [World.cell?_alloc_lt _ _ _ (by simp)]; exact eight_at A W j hj
  wrds j hj := by have := words_at (W.alloc (.cells (eight A) 25)) j hj; simpa using this
  low := hb.trans ((((Below.refl _ _).alloc (Nat.le_refl _) _).alloc (by simp) _).mono hb.size)

theorem word_size (j : Nat) : (word j).size ≤ 5 := by unfold word; split <;> decide
theorem add_word (j : Nat) (w : World) : (Op.stringOp .add ⟨#[100, 101, 109, 111, 110, 58, 32]⟩ (word j)).run Tryd.prog w = .ok (.string (⟨#[100, 101, 109, 111, 110, 58, 32]⟩ ++ word j)) w :=
  run_string_add_sum w _ _ (by have h := word_size j; have : (⟨#[100, 101, 109, 111, 110, 58, 32]⟩ : ByteArray).size = 7 := rfl; omega)
theorem neq_self (x : ByteArray) (w : World) : (Op.stringOp .neq x x).run Tryd.prog w = .ok (.bool false) w := by simp [Op.stringOp]
theorem Stay.drew {A : Nat → Addr} {S : Nat → ByteArray} {be bt : Nat} {w0 wr : World} (h : Stay A S be bt w0 wr) : Stay A S be bt w0 wr.drew := h.next (Below.refl _ _).drew
/-- What a round of the loop reads. -/
theorem stay_four {A : Nat → Addr} {S : Nat → ByteArray} {be bt : Nat} {w0 wr : World} (HS : Hid (∀ j, j < 8 → S j = ⟨#[100, 101, 109, 111, 110, 58, 32]⟩ ++ word j)) (j : Nat) (hj : j < 8) (h : Stay A S be bt w0 wr) :
    wr.cell? ⟨be, j, none⟩ = some (.iface 40 (.pointer (some (A j)))) ∧ wr.cell? ⟨bt, j, none⟩ = some (.string (word j)) ∧ wr.cell? (A j) = some (.string (⟨#[100, 101, 109, 111, 110, 58, 32]⟩ ++ word j)) ∧ Stay A S be bt w0 wr :=
  ⟨h.errs j hj, h.wrds j hj, by rw [h.env.str j hj, HS.out j hj], h⟩
theorem coded_own (A : Nat → Addr) (S : Nat → ByteArray) (j : Nat) (hj : j < 8) (w : World) (E : Env A S w) :
    Calls Tryd.prog 6 #[.iface 40 (.pointer (some (A j))), .int .i64 ((j : Int) + 1)] w fun e w' => e = .returned (.bool true) ∧ Below w.heap.size w w' :=
  coded_of _ _ _ (code_found A S (A j) j hj w E fun _ _ E' => isAt_own E' j hj)
theorem coded_stay (A : Nat → Addr) (S : Nat → ByteArray) (be bt j : Nat) (hj : j < 8) (w0 wr : World) (h : Stay A S be bt w0 wr) :
    Calls Tryd.prog 6 #[.iface 40 (.pointer (some (A j))), .int .i64 ((j : Int) + 1)] wr fun e w' => e = .returned (.bool true) ∧ Stay A S be bt w0 w' :=
  (coded_own A S j hj wr h.env).mono fun _ _ ⟨he, hb⟩ => ⟨he, h.next hb⟩
theorem code_new (A : Nat → Addr) (S : Nat → ByteArray) (s : ByteArray) (wr : World) (E : Env A S wr) :
    Calls Tryd.prog 5 #[.iface 40 (.pointer (some ⟨wr.heap.size, 0, none⟩))] (wr.alloc (.cells #[.string s] 42)) fun e w' => e = .returned (.tuple #[.int .i64 (-1), .int .i64 (-1)]) ∧ Below (wr.alloc (.cells #[.string s] 42)).heap.size (wr.alloc (.cells #[.string s] 42)) w' := by
  refine code_none A S ⟨wr.heap.size, 0, none⟩ _ (E.below ((Below.refl _ _).alloc (Nat.le_refl _) _)) fun W' hb E' => ?_
  refine isAt_other E' _ #[.string s] 42 ?_ fun j hj he => ?_
  · rw [hb.block _ (by simp)]
    exact Array.getElem?_push_size
  · have h := lt_of_cell (E.str j hj)
    rw [← he] at h
    exact Nat.lt_irrefl _ h
theorem code_nil_below (w : World) : Calls Tryd.prog 5 #[.nilIface] w fun e w' => e = .returned (.tuple #[.int .i64 0, .int .i64 (-1)]) ∧ Below w.heap.size w w' :=
  (code_nil w).mono fun _ _ ⟨he, hw⟩ => ⟨he, hw ▸ Below.refl _ _⟩
theorem error_own (a : Addr) (s : ByteArray) (w : World) (h : w.cell? a = some (.string s)) :
    Calls Tryd.prog 37 #[.pointer (some a)] w fun e w' => e = .returned (.string s) ∧ w' = w := by
  go_enter Tryd.func37, Tryd.ntmps37
  go_wp2
  go_ret
  exact ⟨rfl, rfl⟩

set_option maxHeartbeats 1000000 in
theorem names_walk (A : Nat → Addr) (S : Nat → ByteArray) (w : World) (E : Env A S w) (hS : ∀ j, j < 8 → S j = ⟨#[100, 101, 109, 111, 110, 58, 32]⟩ ++ word j) :
    Calls Tryd.prog 3 #[] w fun e w' => e = .returned (.bool true) ∧ Below w.heap.size w w' := by
  have HE := Lib.hid E
  have HS := Lib.hid hS
  clear E hS
  go_enter Tryd.func3, Tryd.ntmps3
  go_wp2_with fail
  refine (same_ints w.heap.size (w.heap.size + 1) 25 (fun j => nums.getD j 0) _ (by omega) ?_ ?_).mono ?_
  · intro j hj
    rw [World.cell?_alloc_lt _ _ _ (by simp)]
    exact nums_at w j hj
  · intro j hj
    have := nums_at (w.alloc (.cells (nums.map (Value.int .i64)).toArray 3)) j hj
    rw [World.size_alloc] at this
    exact this
  rintro e W1 ⟨rfl, q, hW1⟩
  have hb1 : Below w.heap.size w W1 := by
    rw [hW1]
    exact below_drewN (((Below.refl _ _).alloc (Nat.le_refl _) _).alloc (by simp) _) q
  clear hW1
  have E1 := HE.out.below hb1
  have g0 := E1.var 0 (by omega)
  have g1 := E1.var 1 (by omega)
  have g2 := E1.var 2 (by omega)
  have g3 := E1.var 3 (by omega)
  have g4 := E1.var 4 (by omega)
  have g5 := E1.var 5 (by omega)
  have g6 := E1.var 6 (by omega)
  have g7 := E1.var 7 (by omega)
  have H0 := Lib.hid (stay_start E1 hb1)
  unfold eight words word at H0
  clear E1 hb1 HE
  go_wp2_with fail
  go_loopw [5] (fun i wr => ∃ j : Nat, j ≤ 8 ∧ i = .int .i64 j ∧ Hid (Stay A S W1.heap.size (W1.heap.size + 1) w wr)) (fun i _ => 8 - (intOf i).toNat)
  case atStart => exact ⟨0, Nat.zero_le _, rfl, H0⟩
  case round =>
    obtain ⟨j, hj, rfl, HST⟩ := hrel
    by_cases hj8 : j < 8
    · have ce := HST.out.errs j hj8
      go_wp2_with fail
      refine (code_fault A S wr.heap.size j hj8 _ (HST.out.env.below ((Below.refl _ _).alloc (Nat.le_refl _) _)) (by simp) (by simp)).mono ?_
      rintro e W3 ⟨rfl, hb⟩
      have hb3 : Below wr.heap.size wr W3 := ((Below.refl _ _).alloc (Nat.le_refl _) _).trans (hb.mono (by simp))
      have HS3 := Lib.hid (HST.out.next hb3)
      clear hb hb3 HST ce
      have ce := HS3.out.errs j hj8
      have cw := HS3.out.wrds j hj8
      have cs := HS3.out.env.str j hj8
      rw [HS.out j hj8] at cs
      have st := HS3.out
      have e2 : (((j : Int) + 1) != (j : Int) + 1) = false := bne_self_eq_false' _
      have mE := Tryd.methodError
      have wA := add_word j
      have wN := neq_self (⟨#[100, 101, 109, 111, 110, 58, 32]⟩ ++ word j)
      have wS : IntKind.i64.wrap ((j : Int) + 1) = (j : Int) + 1 := IntWalk.i64_in _ (by omega)
      go_wp2_with fail
      go_region_held3 (fun w' => w'.cell? ⟨W1.heap.size, j, none⟩ = some (.iface 40 (.pointer (some (A j)))) ∧ w'.cell? ⟨W1.heap.size + 1, j, none⟩ = some (.string (word j)) ∧ w'.cell? (A j) = some (.string (⟨#[100, 101, 109, 111, 110, 58, 32]⟩ ++ word j)) ∧ Stay A S W1.heap.size (W1.heap.size + 1) w w')
        (first | exact stay_four HS j hj8 (by assumption) | exact stay_four HS j hj8 (Stay.drew (by assumption)) | exact stay_four HS j hj8 (Stay.next (by assumption) (by assumption)))
        (first | (go_at_call 6; refine (coded_stay A S W1.heap.size (W1.heap.size + 1) j hj8 w _ ?_).mono ?_; (first | assumption | exact Stay.drew (by assumption)); rintro e w' ⟨rfl, hst⟩) | (go_at_call 37; refine (error_own _ _ _ (by assumption)).mono ?_; rintro e w' ⟨rfl, rfl⟩))
      clear wS wA wN mE e2 st cs cw ce
      go_wp2
      go_roundw
      case rel => exact ⟨j + 1, by omega, by go_num, Lib.hid (by assumption)⟩
      case measure => simp [intOf]; omega
    · go_wp2_with fail
      refine (new_any _ _).mono ?_
      rintro e W4 ⟨rfl, hW4⟩
      have HST5 := Lib.hid (HST.out.next (show Below wr.heap.size wr W4 from hW4 ▸ (Below.refl _ _).alloc (Nat.le_refl _) _))
      have HC := Lib.hid (code_new A S ⟨#[97, 110, 111, 116, 104, 101, 114, 32, 111, 110, 101]⟩ wr HST.out.env)
      rw [← hW4] at HC
      clear hW4 HST
      go_wp2_with fail
      refine HC.out.mono ?_
      rintro e W6 ⟨rfl, hb6⟩
      have HST7 := Lib.hid (HST5.out.next hb6)
      clear hb6 HST5 HC
      go_wp2_with fail
      refine (coded_of _ _ _ (code_nil_below _)).mono ?_
      rintro e W8 ⟨rfl, hb8⟩
      have HST9 := Lib.hid (HST7.out.next hb8)
      clear hb8 HST7
      go_wp2
      go_ret
      exact ⟨rfl, HST9.out.low⟩
end Go.Proofs.YtfldkpagnodeeaaDoor
