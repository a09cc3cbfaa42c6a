import Derived.Test.YtoahkfeegobeoaaXImplCostValid
import Derived.Test.YtoahkfeegobeoaaXImplGradesValid
import Derived.Test.YtoahkfeegobeoaaXImplMatrixValid
import Derived.Test.YtoahkfeegobeoaaXImplMatrixValid1
import Derived.Test.YtoahkfeegobeoaaXSlicesContainsFuncIntInt
import Derived.Test.YtoahkfeegobeoaaXSlicesIndexFuncIntInt
import Derived.Test.YtoahkfeegobeoaaXSpecCostValid
import Derived.Test.YtoahkfeegobeoaaXSpecGradesValid
import Derived.Test.YtoahkfeegobeoaaXSpecL1All
import Derived.Test.YtoahkfeegobeoaaXSpecL1In
import Derived.Test.YtoahkfeegobeoaaXSpecMatrixValid
import Derived.Test.YtoahkfeegobeoaaXW
import Derived.Test.YtoahkfeegobeoaaYBytes
import Derived.Test.YtoahkfeegobeoaaYLists
namespace Go.Proofs.Ytoahkfeegobeoaa.Y
open Go.RowKit Go.Proofs.Ytoahkfeegobeoaa.X Go.Proofs.YtoahkfeegobeoaaW.PrintWords Go.Proofs.YtoahkfeegobeoaaW.PrintLast Go.Proofs.YtoahkfeegobeoaaW.PrintMore
set_option linter.unusedVariables false
set_option linter.unusedSimpArgs false
/-! ### matrices -/
def okCost (x : Int) : Bool := decide (0 ≤ x ∧ x ≤ 1000000)
def MV (n : Int) (l : List Int) : Prop := 1 ≤ n ∧ n ≤ 4 ∧ (l.length : Int) = n * n ∧ ∀ x ∈ l, 0 ≤ x ∧ x ≤ 1000000
def GV (n : Int) (l : List Int) : Prop := MV n l ∧ ∀ x ∈ l, x ≤ 3
instance (n : Int) (l : List Int) : Decidable (MV n l) := by unfold MV; infer_instance
instance (n : Int) (l : List Int) : Decidable (GV n l) := by unfold GV; infer_instance
theorem icost (a : Int) : impl_CostValid.f a = some (okCost a) := by
  unfold impl_CostValid.f okCost
  by_cases h : a ≥ 0
  · rw [if_pos h]; by_cases h2 : a ≤ 1000000 <;> simp [h2] <;> omega
  · rw [if_neg h]; simp; omega
theorem scost (a : Int) : spec_CostValid.f a = some (okCost a) := by
  unfold spec_CostValid.f spec_l1In.f okCost
  by_cases h : a ≥ 0
  · rw [if_pos h]; by_cases h2 : a ≤ 1000000 <;> simp [h2] <;> omega
  · rw [if_neg h]; simp; omega
theorem sIn (a lo hi : Int) : spec_l1In.f a lo hi = some (decide (lo ≤ a ∧ a ≤ hi)) := by
  unfold spec_l1In.f
  by_cases h : a ≥ lo
  · rw [if_pos h]; by_cases h2 : a ≤ hi <;> simp [h2] <;> omega
  · rw [if_neg h]; simp; omega
theorem index_ev (q : Int → Bool) (p : Int → Option Bool) (hp : ∀ x, p x = some (q x)) (l : List Int) (h : l.length ≤ maxLen) :
    Ev (fun k => slices_ContainsFunc_int_int.f p k l) (l.any q) := by
  rw [maxLen_eq] at h
  have go : ∀ (t pre : List Int), l = pre ++ t → ∃ z : Int, Ev (fun k => slices_IndexFunc_int_int.l0 p k l (l.length : Int) (pre.length : Int)) z ∧ decide (z ≥ 0) = t.any q := by
    intro t
    induction t with
    | nil =>
      intro pre hl
      refine ⟨-1, ?_, rfl⟩
      refine Ev.step (f := fun _ => some (-1)) (fun k => ?_) (Ev.now _)
      simp only [slices_IndexFunc_int_int.l0]
      rw [if_neg (by rw [hl]; simp)]
    | cons x t ih =>
      intro pre hl
      have hlen : l.length = pre.length + (t.length + 1) := by rw [hl]; simp
      have hx : rd l (pre.length : Int) = x := by rw [hl, rd_mid]
      cases hq : q x with
      | true =>
        refine ⟨pre.length, ?_, by simp [hq]⟩
        refine Ev.step (f := fun _ => some (pre.length : Int)) (fun k => ?_) (Ev.now _)
        simp only [slices_IndexFunc_int_int.l0]
        rw [if_pos (by omega), if_pos (by omega), if_pos (by omega), hx, hp, hq, Option.bind_some, if_pos rfl]
      | false =>
        obtain ⟨z, hz, hd⟩ := ih (pre ++ [x]) (by simp [hl])
        refine ⟨z, ?_, by simp [hq, hd]⟩
        refine Ev.step (fun k => ?_) hz
        simp only [slices_IndexFunc_int_int.l0]
        rw [if_pos (by omega), if_pos (by omega), if_pos (by omega), hx, hp, hq, Option.bind_some, if_neg (by simp), w64 (by omega) (by omega), snoc_len]
  obtain ⟨z, hz, hd⟩ := go l [] rfl
  refine Ev.congr (f := ?f1) (fun k => ?h1) ?k1
  case h1 => unfold slices_ContainsFunc_int_int.f slices_IndexFunc_int_int.f; exact rfl
  exact Ev.bind hz (Ev.congr (f := fun _ => some (l.any q)) (fun k => by rw [hd]) (Ev.now _))
theorem iMV (n : Int) (l : List Int) (hl : l.length ≤ maxLen) : Ev (fun k => impl_MatrixValid.f k n l) (decide (MV n l)) := by
  have no : ∀ f : Nat → Option Bool, (∀ k, f k = some false) → ¬ MV n l → Ev f (decide (MV n l)) := fun f h h2 => (ev_some h).is (by rw [decide_eq_false h2])
  by_cases h1 : n < 1
  · exact no _ (fun k => by unfold impl_MatrixValid.f; rw [if_pos h1]) (fun h => by unfold MV at h; omega)
  by_cases h2 : n > 4
  · exact no _ (fun k => by unfold impl_MatrixValid.f; rw [if_neg h1, if_pos h2]) (fun h => by unfold MV at h; omega)
  have hnn : 0 ≤ n * n ∧ n * n ≤ 16 := by
    have : n = 1 ∨ n = 2 ∨ n = 3 ∨ n = 4 := by omega
    rcases this with rfl | rfl | rfl | rfl <;> omega
  by_cases h3 : (l.length : Int) = wrap64 (n * n)
  · rw [w64 (by omega) (by omega)] at h3
    refine Ev.congr (f := ?f2) (fun k => ?h2) ?k2
    case h2 => unfold impl_MatrixValid.f; rw [if_neg h1, if_neg h2, w64 (x := n * n) (by omega) (by omega), if_pos h3] <;> exact rfl
    have hq : ∀ x, impl_MatrixValid_1.f x = some (!(okCost x)) := fun x => by unfold impl_MatrixValid_1.f; rw [icost]; rfl
    refine Ev.bind (index_ev (fun x => !(okCost x)) _ hq l hl) ?_
    refine (ev_some (fun k => rfl)).is ?_
    rw [Bool.eq_iff_iff]
    simp only [Bool.not_eq_true', List.any_eq_false, Bool.not_eq_true', Bool.not_eq_false, decide_eq_true_eq]
    constructor
    · intro h; exact ⟨by omega, by omega, h3, fun x hx => by simpa [okCost] using h x hx⟩
    · intro h x hx; simpa [okCost] using h.2.2.2 x hx
  · refine no _ (fun k => by unfold impl_MatrixValid.f; rw [if_neg h1, if_neg h2, if_neg h3]) (fun h => ?_)
    rw [w64 (by omega) (by omega)] at h3
    exact h3 h.2.2.1
theorem iGV (n : Int) (l : List Int) (hl : l.length ≤ maxLen) : Ev (fun k => impl_GradesValid.f k n l) (decide (GV n l)) := by
  refine Ev.congr (f := ?f3) (fun k => ?h3) ?k3
  case h3 => unfold impl_GradesValid.f; exact rfl
  refine Ev.bind (iMV n l hl) ?_
  by_cases h : MV n l
  · refine Ev.congr (f := ?f4) (fun k => ?h4) ?k4
    case h4 => rw [decide_eq_true h, if_pos rfl] <;> exact rfl
    refine Ev.bind (index_ev (fun x => decide (x > 3)) _ (fun x => rfl) l hl) ?_
    refine (ev_some (fun k => rfl)).is ?_
    rw [Bool.eq_iff_iff]
    simp only [Bool.not_eq_true', List.any_eq_false, decide_eq_true_eq]
    exact ⟨fun g => ⟨h, fun x hx => by have := g x hx; omega⟩, fun g x hx => by have := g.2 x hx; omega⟩
  · refine (ev_some (fun k => ?_)).is (by rw [decide_eq_false (fun g : GV n l => h g.1)])
    rw [decide_eq_false h]; rfl
theorem sAll_ev (l : List Int) (h : l.length ≤ maxLen) : Ev (fun k => spec_l1All.f k l) (l.all okCost) := by
  rw [maxLen_eq] at h
  have go : ∀ (t pre : List Int), l = pre ++ t → Ev (fun k => spec_l1All.l0 k l (l.length : Int) (pre.length : Int)) (t.all okCost) := by
    intro t
    induction t with
    | nil =>
      intro pre hl
      refine Ev.step (f := fun _ => some true) (fun k => ?_) (Ev.now _)
      simp only [spec_l1All.l0]; rw [if_neg (by rw [hl]; simp)]
    | cons x t ih =>
      intro pre hl
      have hlen : l.length = pre.length + (t.length + 1) := by rw [hl]; simp
      have hx : rd l (pre.length : Int) = x := by rw [hl, rd_mid]
      cases hq : okCost x with
      | true =>
        refine Ev.step (fun k => ?_) ((ih (pre ++ [x]) (by simp [hl])).is (by simp [hq]))
        simp only [spec_l1All.l0]
        rw [if_pos (by omega), if_pos (by omega), if_pos (by omega), hx, scost, hq, Option.bind_some, if_pos rfl, w64 (by omega) (by omega), snoc_len]
      | false =>
        refine Ev.step (f := fun _ => some false) (fun k => ?_) ((Ev.now _).is (by simp [hq]))
        simp only [spec_l1All.l0]
        rw [if_pos (by omega), if_pos (by omega), if_pos (by omega), hx, scost, hq, Option.bind_some, if_neg (by simp)]
  exact go l [] rfl
theorem sMV (n : Int) (l : List Int) (hl : l.length ≤ maxLen) : Ev (fun k => spec_MatrixValid.f k n l) (decide (MV n l)) := by
  have no : ∀ f : Nat → Option Bool, (∀ k, f k = some false) → ¬ MV n l → Ev f (decide (MV n l)) := fun f h h2 => (ev_some h).is (by rw [decide_eq_false h2])
  by_cases h1 : 1 ≤ n ∧ n ≤ 4
  · have hnn : 0 ≤ n * n ∧ n * n ≤ 16 := by
      have : n = 1 ∨ n = 2 ∨ n = 3 ∨ n = 4 := by omega
      rcases this with rfl | rfl | rfl | rfl <;> omega
    by_cases h3 : (l.length : Int) = n * n
    · refine Ev.congr (f := ?f5) (fun k => ?h5) ?k5
      case h5 => unfold spec_MatrixValid.f; rw [sIn, decide_eq_true h1, Option.bind_some, if_pos rfl, w64 (x := n * n) (by omega) (by omega), if_pos h3] <;> exact rfl
      refine Ev.bind (sAll_ev l hl) ((ev_some (fun k => rfl)).is ?_)
      rw [Bool.eq_iff_iff]
      simp only [List.all_eq_true, decide_eq_true_eq]
      exact ⟨fun g => ⟨h1.1, h1.2, h3, fun x hx => by simpa [okCost] using g x hx⟩, fun g x hx => by simpa [okCost] using g.2.2.2 x hx⟩
    · exact no _ (fun k => by unfold spec_MatrixValid.f; rw [sIn, decide_eq_true h1, Option.bind_some, if_pos rfl, w64 (x := n * n) (by omega) (by omega), if_neg h3]) (fun h => h3 h.2.2.1)
  · exact no _ (fun k => by unfold spec_MatrixValid.f; rw [sIn, decide_eq_false h1]; rfl) (fun h => h1 ⟨h.1, h.2.1⟩)
theorem sGV (n : Int) (l : List Int) (hl : l.length ≤ maxLen) : Ev (fun k => spec_GradesValid.f k n l) (decide (GV n l)) := by
  have hm := hl
  rw [maxLen_eq] at hm
  have go : ∀ (t pre : List Int), l = pre ++ t → Ev (fun k => spec_GradesValid.l0 k l (l.length : Int) (pre.length : Int) n l) (decide ((∀ x ∈ t, 0 ≤ x ∧ x ≤ 3) ∧ MV n l)) := by
    intro t
    induction t with
    | nil =>
      intro pre hp
      refine Ev.step (f := ?f6) (fun k => ?h6) ?k6
      case h6 => simp only [spec_GradesValid.l0]; rw [if_neg (by rw [hp]; simp)] <;> exact rfl
      exact Ev.bind (sMV n l hl) ((ev_some (fun k => rfl)).is (by simp))
    | cons x t ih =>
      intro pre hp
      have hlen : l.length = pre.length + (t.length + 1) := by rw [hp]; simp
      have hx : rd l (pre.length : Int) = x := by rw [hp, rd_mid]
      by_cases hq : 0 ≤ x ∧ x ≤ 3
      · refine Ev.step (fun k => ?_) ((ih (pre ++ [x]) (by simp [hp])).is ?_)
        · simp only [spec_GradesValid.l0]
          rw [if_pos (by omega), if_pos (by omega), if_pos (by omega), hx, sIn, decide_eq_true hq, Option.bind_some, if_pos rfl, w64 (by omega) (by omega), snoc_len]
        · simp [hq.1, hq.2]
      · refine Ev.step (f := fun _ => some false) (fun k => ?_) ((Ev.now _).is ?_)
        · simp only [spec_GradesValid.l0]
          rw [if_pos (by omega), if_pos (by omega), if_pos (by omega), hx, sIn, decide_eq_false hq, Option.bind_some, if_neg (by simp)]
        · symm; rw [decide_eq_false_iff_not]; intro h; exact hq (h.1 x (by simp))
  refine (go l [] rfl).is ?_
  rw [Bool.eq_iff_iff]
  simp only [decide_eq_true_eq]
  exact ⟨fun h => ⟨h.2, fun x hx => (h.1 x hx).2⟩, fun h => ⟨fun x hx => ⟨(h.1.2.2.2 x hx).1, h.2 x hx⟩, h.1⟩⟩

end Go.Proofs.Ytoahkfeegobeoaa.Y
