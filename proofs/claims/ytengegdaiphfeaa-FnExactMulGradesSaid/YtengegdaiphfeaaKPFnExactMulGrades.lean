/- Proved: the program's MulGrades returns what the reference's returns, in memory of its own, and leaves its arguments alone, for every two matrices. No condition. -/
import Derived.Test.YtengegdaiphfeaaKFnExactMulGrades1
import Derived.Test.YtengegdaiphfeaaKFnExactMulGrades2
import Derived.Test.YtengegdaiphfeaaKFnExactMulGrades5
namespace Go.Proofs.Ytengegdaiphfeaa.Pure
open Go.RowKit Go.Proofs.Ytengegdaiphfeaa.X Go.Proofs.Ytengegdaiphfeaa.Y Go.Proofs.YtengegdaiphfeaaW.PrintWords Go.Proofs.YtengegdaiphfeaaW.PrintLast Go.Proofs.YtengegdaiphfeaaW.PrintMore
set_option linter.unusedVariables false
set_option linter.unusedSimpArgs false
theorem mulR_len (n : Int) (a : List Int) (m : Int) (b : List Int) : (mulR n a m b).2.1.length ≤ 16 := by
  unfold mulR
  by_cases h : GV n a ∧ GV m b ∧ n = m
  · rw [if_pos h]
    obtain ⟨z, rfl⟩ := GV_nat h.1
    have hz := (GV_le h.1).1
    show (mulL z a b).length ≤ 16
    rw [mulL_length]
    exact (Nat.mul_le_mul hz hz : z * z ≤ 4 * 4)
  · rw [if_neg h]; exact Nat.zero_le _
theorem FnExactMulGrades : laws_FnExactMulGrades.Pure := by
  intro n a m b hn ha hwa hm hb hwb
  refine Ev.rounds (g := fun k => laws_FnExactMulGrades.f k n a m b) (r := true) ?_
  unfold laws_FnExactMulGrades.f
  refine Ev_sz (szMatrix_eq n a 1048576 ha (by omega) (by omega)) ?_
  by_cases hz : (a.length : Int) ≤ 1048576
  · rw [if_pos hz]
    have h : a.length ≤ 1048576 := by omega
    refine Ev_f (by omega) ?_
    refine Ev.step (fun k => by simp only [laws_FnExactMulGrades.j0] <;> exact rfl) ?_
    refine Ev_sz (szMatrix_eq m b (1048576 - a.length) hb (by omega) (by omega)) ?_
    by_cases hz2 : (b.length : Int) ≤ 1048576 - a.length
    · rw [if_pos hz2]
      have h2 : b.length ≤ 1048576 := by omega
      refine Ev_f (by omega) ?_
      obtain ⟨r, hr, hs, hi⟩ : ∃ r : Int × List Int × Bool, r.2.1.length ≤ 16 ∧ Ev (fun k => spec_MulGrades.f k n a m b) r ∧ Ev (fun k => impl_MulGrades.f k n a m b) r := ⟨mulR n a m b, mulR_len n a m b, sMul_any n a m b ha hb, iMul_any n a m b ha hb⟩
      obtain ⟨rn, rl, rb⟩ := r
      have hr : rl.length ≤ 16 := hr
      refine Ev.step (fun k => by simp only [laws_FnExactMulGrades.j1] <;> exact rfl) ?_
      refine Ev.bind (toMatrix_ev n a h) ?_
      refine Ev.bind (toMatrix_ev m b h2) ?_
      refine Ev.bind hs ?_
      refine Ev.bind (toMatrix_ev n a h) ?_
      refine Ev.bind (toMatrix_ev m b h2) ?_
      refine Ev.bind hi ?_
      refine Ev.bind (eqMatrix_ev rn rl (by omega)) ?_
      refine Ev_t (by first | rfl | trivial) ?_
      refine Ev.step (fun k => by simp only [laws_FnExactMulGrades.j2] <;> exact rfl) ?_
      refine Ev_f (by simp) ?_
      refine Ev.step (fun k => by simp only [laws_FnExactMulGrades.j3] <;> exact rfl) ?_
      refine Ev.bind (toMatrix_ev n a h) ?_
      refine Ev.bind (eqMatrix_ev n a (by omega)) ?_
      refine Ev_t (by first | rfl | trivial) ?_
      refine Ev.step (fun k => by simp only [laws_FnExactMulGrades.j4] <;> exact rfl) ?_
      refine Ev.bind (toMatrix_ev m b h2) ?_
      refine Ev.bind (eqMatrix_ev m b (by omega)) ?_
      refine Ev_t (by first | rfl | trivial) ?_
      refine Ev.step (fun k => by simp only [laws_FnExactMulGrades.j5] <;> exact rfl) ?_
      refine Ev.bind (markMatrix_ev n a 1 (by omega) (by omega) (by omega)) ?_
      refine Ev.bind (markMatrix_ev m b (1 + a.length) (by omega) (by omega) (by omega)) ?_
      refine Ev_f (by simp only []; omega) ?_
      refine Ev.bind (eqMatrix_ev rn rl (by omega)) ?_
      refine Ev_t (by first | rfl | trivial) ?_
      refine Ev.step (fun k => by simp only [laws_FnExactMulGrades.j6] <;> exact rfl) ?_
      refine Ev_f (by simp) ?_
      refine Ev.step (fun k => by simp only [laws_FnExactMulGrades.j7] <;> exact rfl) ?_
      refine Ev.bind (markMatrix_ev rn rl 1 (by omega) (by omega) (by omega)) ?_
      refine Ev.bind (heldMatrix_ev rn rl.length 1 (by omega) (by omega) (by omega)) ?_
      refine Ev_f (by omega) ?_
      refine Ev.step (fun k => by simp only [laws_FnExactMulGrades.j8] <;> exact rfl) ?_
      refine Ev_t (by first | rfl | trivial) ?_
      refine Ev.step (fun k => by simp only [laws_FnExactMulGrades.j9] <;> exact rfl) ?_
      refine Ev.bind (toMatrix_ev n a h) ?_
      refine Ev.bind (toMatrix_ev m b h2) ?_
      refine Ev.bind hi ?_
      refine Ev.bind (eqMatrix_ev rn rl (by omega)) ?_
      refine Ev_t (by first | rfl | trivial) ?_
      refine Ev.step (fun k => by simp only [laws_FnExactMulGrades.j10] <;> exact rfl) ?_
      refine Ev_f (by simp) ?_
      refine Ev.step (fun k => by simp only [laws_FnExactMulGrades.j11] <;> exact rfl) ?_
      refine Ev.bind (heldMatrix_ev rn rl.length 1 (by omega) (by omega) (by omega)) ?_
      refine Ev_f (by omega) ?_
      exact Ev_t (by first | rfl | trivial) (Ev.now _)
    · rw [if_neg hz2]
      exact Ev_t (by omega) (Ev.now _)
  · rw [if_neg hz]
    exact Ev_t (by omega) (Ev.now _)

end Go.Proofs.Ytengegdaiphfeaa.Pure
