import Derived.Test.YtoahkfeegobeoaaXLawsEqIntS
import Derived.Test.YtoahkfeegobeoaaXLawsEqMatrix
import Derived.Test.YtoahkfeegobeoaaXLawsSzIntS
import Derived.Test.YtoahkfeegobeoaaXLawsSzMatrix
import Derived.Test.YtoahkfeegobeoaaXLawsToIntS
import Derived.Test.YtoahkfeegobeoaaXLawsToMatrix
import Derived.Test.YtoahkfeegobeoaaXW
import Derived.Test.YtoahkfeegobeoaaYBytes
import Derived.Test.YtoahkfeegobeoaaYLists
namespace Go.Proofs.Ytoahkfeegobeoaa.Y
open Go.RowKit Go.Proofs.Ytoahkfeegobeoaa.X Go.Proofs.YtoahkfeegobeoaaW.PrintWords Go.Proofs.YtoahkfeegobeoaaW.PrintLast Go.Proofs.YtoahkfeegobeoaaW.PrintMore
set_option linter.unusedVariables false
set_option linter.unusedSimpArgs false
/-! ### copies, marks, comparisons of lists -/
theorem toIntS_ev (l : List Int) (h : l.length ≤ 1048576) : Ev (fun k => laws_toIntS.f k l) l := by
  have go : ∀ (t pre : List Int), l = pre ++ t → Ev (fun k => laws_toIntS.l0 k l (pre ++ List.replicate t.length 0) (pre.length : Int)) l := by
    intro t
    induction t with
    | nil =>
      intro pre hl
      refine Ev.step (f := fun _ => some l) (fun k => ?_) (Ev.now _)
      simp only [laws_toIntS.l0]
      rw [if_neg (by rw [hl]; simp)]
      simp [hl]
    | cons x t ih =>
      intro pre hl
      have hlen : l.length = pre.length + (t.length + 1) := by rw [hl]; simp
      refine Ev.step (fun k => ?_) (ih (pre ++ [x]) (by simp [hl]))
      simp only [laws_toIntS.l0]
      rw [if_pos (by omega), if_pos (by omega), if_pos (by simp; omega), w64 (by omega) (by omega), hl, rd_mid, snoc_len, ← hl]
      congr 1
      simp [List.replicate_succ, List.set_append]
  refine Ev.congr (fun k => ?_) (go l [] rfl)
  unfold laws_toIntS.f
  rw [if_pos (by omega), if_pos (by omega)]
  simp
theorem eqIntS_ev (a b : List Int) (h : a.length ≤ 1000000000) : Ev (fun k => laws_eqIntS.f k a b) (decide (a = b)) := by
  by_cases hl : a.length = b.length
  · have go : ∀ (t u pre : List Int), a = pre ++ t → b = pre ++ u → Ev (fun k => laws_eqIntS.l0 k a b (pre.length : Int)) (decide (a = b)) := by
      intro t
      induction t with
      | nil =>
        intro u pre ha hb
        have hu : u = [] := by
          have h1 := congrArg List.length ha
          have h2 := congrArg List.length hb
          simp at h1 h2
          exact List.length_eq_zero_iff.mp (by omega)
        subst hu
        have hab : a = b := by rw [ha, hb]
        refine Ev.step (f := fun _ => some true) (fun k => ?_) ((Ev.now _).is (by rw [decide_eq_true hab]))
        simp only [laws_eqIntS.l0]
        rw [if_neg (by rw [ha]; simp)]
      | cons x t ih =>
        intro u pre ha hb
        have hla : a.length = pre.length + (t.length + 1) := by rw [ha]; simp
        cases u with
        | nil => have h2 := congrArg List.length hb; simp at h2; omega
        | cons y u =>
          by_cases hxy : x = y
          · subst hxy
            refine Ev.step (fun k => ?_) (ih u (pre ++ [x]) (by simp [ha]) (by simp [hb]))
            simp only [laws_eqIntS.l0]
            rw [if_pos (by omega), if_pos (by omega), if_pos (by omega), w64 (by omega) (by omega), snoc_len, if_pos (by rw [ha, hb, rd_mid, rd_mid])]
          · have hab : ¬ a = b := by
              intro e
              rw [ha, hb] at e
              have := List.append_cancel_left e
              simp at this
              exact hxy this.1
            refine Ev.step (f := fun _ => some false) (fun k => ?_) ((Ev.now _).is (by rw [decide_eq_false hab]))
            simp only [laws_eqIntS.l0]
            rw [if_pos (by omega), if_pos (by omega), if_pos (by omega), if_neg (by rw [ha, hb, rd_mid, rd_mid]; exact hxy)]
    refine Ev.congr (fun k => ?_) (go a b [] rfl rfl)
    unfold laws_eqIntS.f
    rw [if_pos (by omega)]; rfl
  · have hab : ¬ a = b := fun e => hl (by rw [e])
    refine Ev.congr (f := fun _ => some false) (fun k => ?_) ((Ev.now _).is (by rw [decide_eq_false hab]))
    unfold laws_eqIntS.f
    rw [if_neg (by omega)]
theorem toMatrix_ev (n : Int) (l : List Int) (h : l.length ≤ 1048576) : Ev (fun k => laws_toMatrix.f k n l) (n, l) := by
  refine Ev.congr (f := ?f1) (fun k => ?h1) ?k1
  case h1 => unfold laws_toMatrix.f; exact rfl
  exact Ev.bind (toIntS_ev l h) (Ev.now _)
theorem eqMatrix_ev (n : Int) (l : List Int) (h : l.length ≤ 1000000000) : Ev (fun k => laws_eqMatrix.f k n l n l) true := by
  refine Ev.congr (f := ?f2) (fun k => ?h2) ?k2
  case h2 => unfold laws_eqMatrix.f; rw [if_pos rfl] <;> exact rfl
  exact Ev.bind (eqIntS_ev l l h) (Ev.congr (f := fun _ => some true) (fun k => by simp) (Ev.now _))
theorem szMatrix_eq (n : Int) (l : List Int) (z : Int) (h : l.length ≤ maxLen) (h0 : 0 ≤ z) (h1 : z ≤ 1048576) : laws_szMatrix.f n l z = some (if (l.length : Int) ≤ z then z - l.length else -1) := by
  rw [maxLen_eq] at h
  unfold laws_szMatrix.f laws_szIntS.f
  rw [w64 (by omega) (by omega)]
  by_cases hl : (l.length : Int) ≤ z
  · rw [if_neg (by omega), if_pos hl, Option.bind_some, if_neg (by omega)]
  · rw [if_pos (by omega), if_neg hl]; rfl
/-! ### steps of a law -/
theorem Ev_t {α : Type} {f g : Nat → Option α} {r : α} {c : Prop} [Decidable c] (h : c) (k : Ev f r) : Ev (fun n => if c then f n else g n) r := Ev.congr (fun n => if_pos h) k
theorem Ev_f {α : Type} {f g : Nat → Option α} {r : α} {c : Prop} [Decidable c] (h : ¬ c) (k : Ev g r) : Ev (fun n => if c then f n else g n) r := Ev.congr (fun n => if_neg h) k
theorem Ev_sz {α : Type} {o : Option Int} {z : Int} {g : Nat → Int → Option α} {r : α} (h : o = some z) (k : Ev (fun n => g n z) r) : Ev (fun n => o.bind (g n)) r := Ev.congr (fun n => by rw [h]; rfl) k

end Go.Proofs.Ytoahkfeegobeoaa.Y
