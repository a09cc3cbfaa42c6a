/- Proved: the program's GradesValid returns what the reference's returns, and leaves its argument alone, for every matrix. No condition. -/
import Derived.Test.YtoahkfeegobeoaaXLawsFnExactGradesValid
import Derived.Test.YtoahkfeegobeoaaXW
import Derived.Test.YtoahkfeegobeoaaYCopy
import Derived.Test.YtoahkfeegobeoaaYMat
namespace Go.Proofs.Ytoahkfeegobeoaa.Pure
open Go.RowKit Go.Proofs.Ytoahkfeegobeoaa.X Go.Proofs.Ytoahkfeegobeoaa.Y Go.Proofs.YtoahkfeegobeoaaW.PrintWords Go.Proofs.YtoahkfeegobeoaaW.PrintLast Go.Proofs.YtoahkfeegobeoaaW.PrintMore
set_option linter.unusedVariables false
set_option linter.unusedSimpArgs false
theorem FnExactGradesValid : laws_FnExactGradesValid.Pure := by
  intro n l hn hl hw
  refine Ev.rounds (g := fun k => laws_FnExactGradesValid.f k n l) (r := true) ?_
  unfold laws_FnExactGradesValid.f
  refine Ev_sz (szMatrix_eq n l 1048576 hl (by omega) (by omega)) ?_
  by_cases hz : (l.length : Int) ≤ 1048576
  · rw [if_pos hz]
    have h : l.length ≤ 1048576 := by omega
    refine Ev_f (by omega) ?_
    refine Ev.bind (toMatrix_ev n l h) ?_
    refine Ev.bind (sGV n l hl) ?_
    refine Ev.bind (toMatrix_ev n l h) ?_
    refine Ev.bind (iGV n l hl) ?_
    refine Ev_f (by simp) ?_
    refine Ev.bind (toMatrix_ev n l h) ?_
    refine Ev.bind (eqMatrix_ev n l (by omega)) ?_
    exact Ev_t rfl (Ev.now _)
  · rw [if_neg hz]
    exact Ev_t (by omega) (Ev.now _)

end Go.Proofs.Ytoahkfeegobeoaa.Pure
