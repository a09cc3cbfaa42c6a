/- Proved: the program's IsIdempotent returns what the reference's returns, and leaves its argument alone, for every matrix. No condition. -/
import Derived.Test.YtengegdaiphfeaaKFnExactIsIdempotent3
import Derived.Test.YtengegdaiphfeaaKFnExactIsIdempotent1
namespace Go.Proofs.Ytengegdaiphfeaa.Pure
open Go.RowKit Go.Proofs.Ytengegdaiphfeaa.X Go.Proofs.Ytengegdaiphfeaa.Y Go.Proofs.YtengegdaiphfeaaW.PrintWords Go.Proofs.YtengegdaiphfeaaW.PrintLast Go.Proofs.YtengegdaiphfeaaW.PrintMore
set_option linter.unusedVariables false
set_option linter.unusedSimpArgs false
theorem FnExactIsIdempotent : laws_FnExactIsIdempotent.Pure := by
  intro n l hn hl hw
  refine Ev.rounds (g := fun k => laws_FnExactIsIdempotent.f k n l) (r := true) ?_
  unfold laws_FnExactIsIdempotent.f
  refine Ev_sz (szMatrix_eq n l 1048576 hl (by omega) (by omega)) ?_
  by_cases hz : (l.length : Int) ≤ 1048576
  · rw [if_pos hz]
    have h : l.length ≤ 1048576 := by omega
    refine Ev_f (by omega) ?_
    refine Ev.bind (toMatrix_ev n l h) ?_
    refine Ev.bind (sIdem n l hl) ?_
    refine Ev.bind (toMatrix_ev n l h) ?_
    refine Ev.bind (iIdem n l hl) ?_
    refine Ev_f (by simp) ?_
    refine Ev.bind (toMatrix_ev n l h) ?_
    refine Ev.bind (eqMatrix_ev n l (by omega)) ?_
    exact Ev_t rfl (Ev.now _)
  · rw [if_neg hz]
    exact Ev_t (by omega) (Ev.now _)

end Go.Proofs.Ytengegdaiphfeaa.Pure
