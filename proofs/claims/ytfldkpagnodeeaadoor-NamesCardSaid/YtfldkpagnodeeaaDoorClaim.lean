/-
  The law 'Names' returns true: the tied card. Conditions: the nine listed package-level variables hold what their own initialisers lay (the card ties them to the program's text); there is no argument.
-/
import Derived.Test.YtfldkpagnodeeaaDoorCards
import Derived.Test.YtfldkpagnodeeaaDoorTie
import Derived.Test.YtfldkpagnodeeaaDoorLaw
import Derived.ProofKit
import Derived.OpenShut
import Derived.Deep.DeepHandedRow
import Derived.Deep.DeepWitnessRowRef
import Derived.LaidLaws
import Derived.LaidHandle
import Derived.Lay
import Derived.SevenTiedAt
namespace Go.Proofs.YtfldkpagnodeeaaDoor
open Go.ChangeShapes Go.WideShapes Go.ChangeAt Go.RowKit

theorem own : ownKnob Tryd.prog.godebug = none := by kernel_rfl
theorem rt : (Tryd.prog.cutTypes.find? (·.1 == "internal/reflectlite.rtype")).map (·.2) = some 58 := by kernel_rfl
theorem oneRow : ((List.range 107).filter fun t => Tryd.prog.rowNamed t [101, 114, 114, 111, 114]) = [25] := by kernel_rfl
theorem typesSize : Tryd.prog.types.size = 107 := by kernel_rfl
theorem gET : Tryd.prog.globalNamed "errors.errorType" = some 8 := by kernel_rfl
theorem row40 (u : TypeId) (hu : Tryd.prog.typeName? 3 u = some "*errors.errorString") : u = 40 :=
  typeName_ptr_named (P := Tryd.prog) (nm := "errors.errorString") (tp := 40) (by kernel_rfl) (by kernel_rfl) (by decide) u hu
theorem cells42 : Tryd.prog.cellsOf 42 = 1 := by kernel_rfl
theorem cells9 : Tryd.prog.cellsOf 9 = 1 := by kernel_rfl

/-- A listed sentinel: its name and its text. -/
def mk (x : String × List UInt8) : String × DataW Unit := (x.1, .iface "*errors.errorString" (.ptr (.agg [.lit (.string x.2)])))
def placeOf (x : Addr × ByteArray) : MemPlace := .cell x.1.block x.1.off
/-- What each of the listed sentinels leads to. -/
def Leads (W : World) : List (String × List UInt8) → List (Addr × ByteArray) → Prop
  | [], [] => True
  | n :: l, x :: r => W.var? Tryd.prog n.1 = some #[.iface 40 (.pointer (some x.1))] ∧ W.cell? x.1 = some (.string x.2) ∧ x.2.data.toList = n.2 ∧ (∃ c t, W.heap[x.1.block]? = some (.cells c t (0, 0))) ∧ Leads W l r
  | _, _ => False

theorem leads_of_laid {W : World} : ∀ (l : List (String × List UInt8)) (ps : List MemPlace), DataW.LaidVars Tryd.prog W (l.map mk) ps →
    (∀ n ∈ l, ∃ g, Tryd.prog.globalNamed n.1 = some g ∧ (Tryd.prog.globals[g]?).map (·.type) = some 25) →
    (∀ b off, MemPlace.cell b off ∈ ps → (∃ c t, W.heap[b]? = some (.cells c t (0, 0))) ∧ ∀ u v, W.cell? ⟨b, off, none⟩ = some (.iface u v) → Value.okWide Tryd.prog W .any 0 u v) →
    ∃ r : List (Addr × ByteArray), Leads W l r ∧ (r.map placeOf).Sublist ps
  | [], ps, h, _, _ => ⟨[], trivial, by simp⟩
  | n :: l, ps, ⟨g, t, cs, fuel, p, q, hg, ht, hv, hd, hr, e⟩, hn, hrows => by
    subst e
    obtain ⟨g', hg', ht'⟩ := hn n (List.mem_cons_self)
    obtain rfl := Option.some.inj (hg'.symm.trans hg)
    obtain rfl := Option.some.inj (ht'.symm.trans ht)
    obtain ⟨l0⟩ := cs
    have ok0 : ∀ u v, l0 = [.iface u v] → Value.okWide Tryd.prog W .any 0 u v := fun u v e => by
      subst e
      exact (hrows g' 0 (by simp [MemPlace.row])).2 u v (by simpa using World.var?_cell hg hv 0)
    obtain ⟨a, s, rfl, hc, hs, _, rfl⟩ := errorString_of_trod Tryd.underlying25 row40 Tryd.underlying40 Tryd.underlying42 rfl rfl Tryd.underlying9 cells42 cells9 hd ok0
    have hb := (hrows a.block a.off (by simp [MemPlace.row])).1
    obtain ⟨r, hl, hsub⟩ := leads_of_laid l q hr (fun m hm => hn m (List.mem_cons_of_mem _ hm)) (fun b off h => hrows b off (by simp only [List.mem_append]; exact .inr h))
    refine ⟨(a, s) :: r, ⟨hv, hc, hs, hb, hl⟩, ?_⟩
    have h1 : List.Sublist [placeOf (a, s)] (MemPlace.row ⟨g', 0, none⟩ (Array.size ⟨[Value.iface 40 (.pointer (some a))]⟩) ++ MemPlace.row a 1) := by
      simp [MemPlace.row, placeOf]
    exact h1.append hsub

def eightNames : List (String × List UInt8) := [("demon/api.ErrText", [100, 101, 109, 111, 110, 58, 32, 116, 101, 120, 116]), ("demon/api.ErrBound", [100, 101, 109, 111, 110, 58, 32, 98, 111, 117, 110, 100]), ("demon/api.ErrShape", [100, 101, 109, 111, 110, 58, 32, 115, 104, 97, 112, 101]), ("demon/api.ErrZero", [100, 101, 109, 111, 110, 58, 32, 122, 101, 114, 111]), ("demon/api.ErrName", [100, 101, 109, 111, 110, 58, 32, 110, 97, 109, 101]), ("demon/api.ErrNone", [100, 101, 109, 111, 110, 58, 32, 110, 111, 110, 101]), ("demon/api.ErrOrder", [100, 101, 109, 111, 110, 58, 32, 111, 114, 100, 101, 114]), ("demon/api.ErrKind", [100, 101, 109, 111, 110, 58, 32, 107, 105, 110, 100])]

theorem places_ne (xs : List (Addr × ByteArray)) (d : Addr × ByteArray) (h : (xs.map placeOf).Nodup) (i j : Nat) (hi : i < xs.length) (hj : j < xs.length) (hij : i < j) : placeOf (xs.getD i d) ≠ placeOf (xs.getD j d) := by
  have := List.pairwise_iff_getElem.1 h i j (by simpa using hi) (by simpa using hj) hij
  rw [List.getElem_map, List.getElem_map] at this
  rwa [List.getD_eq_getElem?_getD, List.getD_eq_getElem?_getD, List.getElem?_eq_getElem hi, List.getElem?_eq_getElem hj]

/-- WHAT THE ROW's LIST GIVES THE WALK. -/
theorem env_of_laid {W : World} (h : laidMetH Tryd.prog Rows.namesRow.laid W) : ∃ (A : Nat → Addr) (S : Nat → ByteArray), Env A S W ∧ ∀ j, j < 8 → S j = ⟨#[100, 101, 109, 111, 110, 58, 32]⟩ ++ word j := by
  have h' : laidMet Tryd.prog (eightNames.map mk) W ∧ handlesMet Tryd.prog [("errors.errorType", Rows.laid_errors_errorType)] W := h
  obtain ⟨name, u, ty, e1, e2, e3, e4, e5⟩ := h'.2 _ (List.mem_singleton.2 rfl)
  have en : name = [101, 114, 114, 111, 114] := (Option.some.inj e1).symm
  subst en
  obtain rfl := Option.some.inj (rt.symm.trans e2)
  have hm : ty ∈ (List.range 107).filter fun t => Tryd.prog.rowNamed t [101, 114, 114, 111, 114] := List.mem_filter.2 ⟨List.mem_range.2 (by rw [← typesSize]; exact e3), e4⟩
  rw [oneRow] at hm
  obtain rfl := List.mem_singleton.1 hm
  have hh : typeHandle Tryd.prog 25 = .pointer (some ⟨9, 25, none⟩) := by kernel_rfl
  rw [hh] at e5
  obtain ⟨ps, hv, hnd, hrows⟩ := h'.1
  obtain ⟨r, hl, hsub⟩ := leads_of_laid eightNames ps hv (fun n hn => by
    simp only [eightNames, List.mem_cons, List.mem_nil_iff, or_false] at hn
    rcases hn with rfl | rfl | rfl | rfl | rfl | rfl | rfl | rfl
    · exact ⟨0, by kernel_rfl, by kernel_rfl⟩
    · exact ⟨1, by kernel_rfl, by kernel_rfl⟩
    · exact ⟨2, by kernel_rfl, by kernel_rfl⟩
    · exact ⟨3, by kernel_rfl, by kernel_rfl⟩
    · exact ⟨4, by kernel_rfl, by kernel_rfl⟩
    · exact ⟨5, by kernel_rfl, by kernel_rfl⟩
    · exact ⟨6, by kernel_rfl, by kernel_rfl⟩
    · exact ⟨7, by kernel_rfl, by kernel_rfl⟩) hrows
  have hnr := hsub.nodup hnd
  match r, hl with
  | [x0, x1, x2, x3, x4, x5, x6, x7], ⟨v0, c0, t0, r0, v1, c1, t1, r1, v2, c2, t2, r2, v3, c3, t3, r3, v4, c4, t4, r4, v5, c5, t5, r5, v6, c6, t6, r6, v7, c7, t7, r7, _⟩ =>
    have g0 : Tryd.prog.globalNamed "demon/api.ErrText" = some 0 := by kernel_rfl
    have g1 : Tryd.prog.globalNamed "demon/api.ErrBound" = some 1 := by kernel_rfl
    have g2 : Tryd.prog.globalNamed "demon/api.ErrShape" = some 2 := by kernel_rfl
    have g3 : Tryd.prog.globalNamed "demon/api.ErrZero" = some 3 := by kernel_rfl
    have g4 : Tryd.prog.globalNamed "demon/api.ErrName" = some 4 := by kernel_rfl
    have g5 : Tryd.prog.globalNamed "demon/api.ErrNone" = some 5 := by kernel_rfl
    have g6 : Tryd.prog.globalNamed "demon/api.ErrOrder" = some 6 := by kernel_rfl
    have g7 : Tryd.prog.globalNamed "demon/api.ErrKind" = some 7 := by kernel_rfl
    have k0 : W.cell? ⟨0, 0, none⟩ = some (.iface 40 (.pointer (some x0.1))) := by simpa using World.var?_cell g0 v0 0
    have k1 : W.cell? ⟨1, 0, none⟩ = some (.iface 40 (.pointer (some x1.1))) := by simpa using World.var?_cell g1 v1 0
    have k2 : W.cell? ⟨2, 0, none⟩ = some (.iface 40 (.pointer (some x2.1))) := by simpa using World.var?_cell g2 v2 0
    have k3 : W.cell? ⟨3, 0, none⟩ = some (.iface 40 (.pointer (some x3.1))) := by simpa using World.var?_cell g3 v3 0
    have k4 : W.cell? ⟨4, 0, none⟩ = some (.iface 40 (.pointer (some x4.1))) := by simpa using World.var?_cell g4 v4 0
    have k5 : W.cell? ⟨5, 0, none⟩ = some (.iface 40 (.pointer (some x5.1))) := by simpa using World.var?_cell g5 v5 0
    have k6 : W.cell? ⟨6, 0, none⟩ = some (.iface 40 (.pointer (some x6.1))) := by simpa using World.var?_cell g6 v6 0
    have k7 : W.cell? ⟨7, 0, none⟩ = some (.iface 40 (.pointer (some x7.1))) := by simpa using World.var?_cell g7 v7 0
    have kh : W.cell? ⟨8, 0, none⟩ = some (.iface 58 (.agg #[.pointer (some ⟨9, 25, none⟩)])) := by simpa using World.var?_cell gET e5 0
    let xs : List (Addr × ByteArray) := [x0, x1, x2, x3, x4, x5, x6, x7]
    let A : Nat → Addr := fun j => (xs.getD j x0).1
    let S : Nat → ByteArray := fun j => (xs.getD j x0).2
    refine ⟨A, S, ⟨?_, ?_, ?_, ?_, kh⟩, ?_⟩
    · intro j hj
      rcases j with _ | _ | _ | _ | _ | _ | _ | _ | j
      · exact k0
      · exact k1
      · exact k2
      · exact k3
      · exact k4
      · exact k5
      · exact k6
      · exact k7
      · omega
    · intro j hj
      rcases j with _ | _ | _ | _ | _ | _ | _ | _ | j
      · exact c0
      · exact c1
      · exact c2
      · exact c3
      · exact c4
      · exact c5
      · exact c6
      · exact c7
      · omega
    · intro j hj
      rcases j with _ | _ | _ | _ | _ | _ | _ | _ | j
      · exact r0
      · exact r1
      · exact r2
      · exact r3
      · exact r4
      · exact r5
      · exact r6
      · exact r7
      · omega
    · have hp := places_ne xs x0 hnr
      intro i j hi hj hij he
      rcases Nat.lt_or_gt_of_ne hij with h | h
      · exact hp i j hi hj h (by show MemPlace.cell (A i).block (A i).off = MemPlace.cell (A j).block (A j).off; rw [he])
      · exact hp j i hj hi h (by show MemPlace.cell (A j).block (A j).off = MemPlace.cell (A i).block (A i).off; rw [he])
    · intro j hj
      rcases j with _ | _ | _ | _ | _ | _ | _ | _ | j
      · exact ByteArray.ext (Array.toList_inj.1 t0)
      · exact ByteArray.ext (Array.toList_inj.1 t1)
      · exact ByteArray.ext (Array.toList_inj.1 t2)
      · exact ByteArray.ext (Array.toList_inj.1 t3)
      · exact ByteArray.ext (Array.toList_inj.1 t4)
      · exact ByteArray.ext (Array.toList_inj.1 t5)
      · exact ByteArray.ext (Array.toList_inj.1 t6)
      · exact ByteArray.ext (Array.toList_inj.1 t7)
      · omega

/-- A world for the witness: the eight variables laid, the handle in its variable. -/
noncomputable def laidWorld (os : Os) : World :=
  { (World.holding Tryd.prog os ⟨#[], #[], []⟩).layVars Tryd.prog (eightNames.map mk) with
    heap := ((World.holding Tryd.prog os ⟨#[], #[], []⟩).layVars Tryd.prog (eightNames.map mk)).heap.modify 8 fun
      | .cells _ t frozen => .cells #[.iface 58 (.agg #[.pointer (some ⟨9, 25, none⟩)])] t frozen
      | o => o }
theorem laid_met (os : Os) : laidMetH Tryd.prog Rows.namesRow.laid ((laidWorld os).forCall (fun _ _ => 0) ⟨#[], #[], []⟩).memory :=
  laidMetH_of_parts (laidMet_of_run' 8 (by kernel_rfl) (by kernel_rfl)) (by kernel_rfl)

set_option maxRecDepth 100000 in
theorem lifted (os : Os) (started : os.Started) (H : Type) (enc : TypeId × Value → H) :
    ReturnsInHanded {} Tryd.checked os 3 .any (fun w args => (Rows.namesSpec.pre enc Tryd.prog Tryd.f3 [] false w args ∧ laidMetH Tryd.prog Rows.namesRow.laid w) ∧ sizedMet enc Tryd.prog Tryd.f3 (OpenSpec.ofChange Rows.namesSpec) false w args)
      (Rows.namesSpec.post enc Tryd.prog Tryd.f3 false true false false) := by
  refine returnsInHanded_of_change_and (C := Tryd.checked) (X := fun w _ => laidMetH Tryd.prog Rows.namesRow.laid w) (fun _ _ _ hh h => h.of_heap hh) own started (by kernel_rfl) Tryd.func3
    (ChangeSpec.witness_shaped (enc := enc) (C := Tryd.checked) (os := os) (X := fun w _ => laidMetH Tryd.prog Rows.namesRow.laid w) false (laidWorld os) #[] 8 rfl
      (World.shaped_of_RefB (by kernel_rfl) (by kernel_rfl)) (by kernel_rfl) (by kernel_rfl) (by kernel_rfl) (laid_met os)) ?_
  intro W base args ds gs before hval0 hW _ _ hL _
  have hW' := hW
  obtain ⟨p, q, hA0, hV, rfl, _, _⟩ := hW
  have hA : DataW.TrodAll enc Tryd.prog W 0 (fun _ => true) true Tryd.f3.params.toList args.toList ds p := hA0
  rw [Tryd.params3] at hA
  obtain ⟨rfl, rfl, rfl⟩ := trodAll_none hA
  obtain ⟨rfl, rfl⟩ := trodVars_none hV
  obtain ⟨A, S, E, hS⟩ := env_of_laid hL
  refine (names_walk A S W E hS).mono fun e W' ⟨he, hb⟩ => ?_
  subst he
  exact ⟨_, rfl, _, _, _, [], [], [], hW', trodAll_mk1 (shut_bool Tryd.underlying4 _), trodAll_mk0, rfl, hb.frame _, fun h => by cases h⟩

theorem names_said : Rows.NamesSaid :=
  OpenClaim.holds_of_wide 3 Tryd.f3 rfl rfl rfl rfl rfl rfl rfl ⟨rfl, rfl, rfl, rfl, rfl⟩ rfl rfl rfl rfl rfl (by kernel_rfl) Tryd.func3 (by kernel_rfl)
    (of_decide_eq_true (by kernel_rfl)) (by unfold Func.isWrapper; first | (rw [if_pos (by decide +kernel)]; kernel_rfl) | (rw [if_neg (by decide +kernel)]; exact ⟨rfl, rfl⟩))
    (fun os started H enc _ => lifted os started H enc)

theorem plain (f : FuncId) (fn : Func) (hf : Tryd.pinned.checked.prog.funcNamed "demon/demonlaw1.Names" = some f) (hfn : Tryd.pinned.checked.prog.funcs[f]? = some fn) :
    true = Tryd.pinned.checked.prog.looks [] ∧ ∀ (j : Nat) t, fn.params[j]? = some t → Tryd.pinned.checked.prog.wantsStandIn t = false := by
  obtain rfl : f = 3 := Option.some.inj ((show Tryd.prog.funcNamed "demon/demonlaw1.Names" = some 3 by kernel_rfl).symm.trans hf) |>.symm
  obtain rfl : fn = Tryd.f3 := (Option.some.inj (Tryd.func3.symm.trans hfn)).symm
  refine ⟨by kernel_rfl, fun j t ht => ?_⟩
  rw [Tryd.params3] at ht
  simp at ht

/-- THE CARD. -/
theorem names_holds : Rows.NamesCardSaid :=
  Claim7.holds_tied_plain_at .later [] _ _ _ _ names_said (fun _ h => by cases h) (by kernel_rfl) (fun _ h => by cases h) names_row_tie rfl ⟨rfl, rfl⟩ (by kernel_rfl) rfl plain (by kernel_rfl)
#print axioms names_holds
end Go.Proofs.YtfldkpagnodeeaaDoor
