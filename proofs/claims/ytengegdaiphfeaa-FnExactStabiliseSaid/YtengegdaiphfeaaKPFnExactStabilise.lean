/- Proved: the program's Stabilise returns what the reference's returns, in memory of its own, and leaves its argument alone, for every matrix. No condition. -/
import Derived.Test.YtengegdaiphfeaaKFnExactStabilise2
import Derived.Test.YtengegdaiphfeaaKFnExactStabilise4
import Derived.Test.YtengegdaiphfeaaKFnExactStabilise3
import Derived.Test.YtengegdaiphfeaaKFnExactStabilise1
import Derived.Test.YtengegdaiphfeaaKFnExactStabilise5
namespace Go.Proofs.Ytengegdaiphfeaa.Pure
open Go.RowKit Go.Proofs.Ytengegdaiphfeaa.X Go.Proofs.Ytengegdaiphfeaa.Y Go.Proofs.YtengegdaiphfeaaW.PrintWords Go.Proofs.YtengegdaiphfeaaW.PrintLast Go.Proofs.YtengegdaiphfeaaW.PrintMore
set_option linter.unusedVariables false
set_option linter.unusedSimpArgs false
theorem FnExactStabilise : laws_FnExactStabilise.Pure := by
  intro n l hn hl hw
  refine Ev.rounds (g := fun k => laws_FnExactStabilise.f k n l) (r := true) ?_
  unfold laws_FnExactStabilise.f
  refine Ev_sz (szMatrix_eq n l 1048576 hl (by omega) (by omega)) ?_
  by_cases hz : (l.length : Int) ≤ 1048576
  · rw [if_pos hz]
    have h : l.length ≤ 1048576 := by omega
    obtain ⟨r, hr, h1, h2⟩ : ∃ r : Int × List Int × Bool, r.2.1.length ≤ 1048576 ∧ Ev (fun k => spec_Stabilise.f k n l) r ∧ Ev (fun k => impl_Stabilise.f k n l) r := ⟨stabR n l, Nat.le_trans (stabR_len n l) (by omega), sStab n l hl, iStab n l hl⟩
    obtain ⟨rn, rl, rb⟩ := r
    have hr : rl.length ≤ 1048576 := hr
    refine Ev_f (by omega) ?_
    refine Ev.bind (toMatrix_ev n l h) ?_
    refine Ev.bind h1 ?_
    refine Ev.bind (toMatrix_ev n l h) ?_
    refine Ev.bind h2 ?_
    refine Ev.bind (eqMatrix_ev rn rl (by omega)) ?_
    refine Ev_t rfl ?_
    refine Ev.step (fun k => by simp only [laws_FnExactStabilise.j0] <;> exact rfl) ?_
    refine Ev_f (by simp) ?_
    refine Ev.bind (toMatrix_ev n l h) ?_
    refine Ev.bind (eqMatrix_ev n l (by omega)) ?_
    refine Ev_t rfl ?_
    refine Ev.bind (markMatrix_ev n l 1 (by omega) (by omega) (by omega)) ?_
    refine Ev_f (by simp; omega) ?_
    refine Ev.bind (eqMatrix_ev rn rl (by omega)) ?_
    refine Ev_t rfl ?_
    refine Ev.step (fun k => by simp only [laws_FnExactStabilise.j1] <;> exact rfl) ?_
    refine Ev_f (by simp) ?_
    refine Ev.bind (markMatrix_ev rn rl 1 (by omega) (by omega) (by omega)) ?_
    refine Ev.bind (heldMatrix_ev rn rl.length 1 (by omega) (by omega) (by omega)) ?_
    refine Ev_f (by omega) ?_
    refine Ev_t rfl ?_
    refine Ev.bind (toMatrix_ev n l h) ?_
    refine Ev.bind h2 ?_
    refine Ev.bind (eqMatrix_ev rn rl (by omega)) ?_
    refine Ev_t rfl ?_
    refine Ev.step (fun k => by simp only [laws_FnExactStabilise.j2] <;> exact rfl) ?_
    refine Ev_f (by simp) ?_
    refine Ev.bind (heldMatrix_ev rn rl.length 1 (by omega) (by omega) (by omega)) ?_
    refine Ev_f (by omega) ?_
    exact Ev_t rfl (Ev.now _)
  · rw [if_neg hz]
    exact Ev_t (by omega) (Ev.now _)

end Go.Proofs.Ytengegdaiphfeaa.Pure
