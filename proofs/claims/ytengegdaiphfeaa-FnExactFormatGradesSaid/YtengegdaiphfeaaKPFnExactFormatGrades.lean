/- Proved: the program's FormatGrades returns what the reference's returns, and leaves its argument alone, for every matrix. No condition. -/
import Derived.Test.YtengegdaiphfeaaKFnExactFormatGrades1
import Derived.Test.YtengegdaiphfeaaKFnExactFormatGrades2
import Derived.Test.YtengegdaiphfeaaKFnExactFormatGrades3
namespace Go.Proofs.Ytengegdaiphfeaa.Pure
open Go.RowKit Go.Proofs.Ytengegdaiphfeaa.X Go.Proofs.Ytengegdaiphfeaa.Y Go.Proofs.YtengegdaiphfeaaW.PrintWords Go.Proofs.YtengegdaiphfeaaW.PrintLast Go.Proofs.YtengegdaiphfeaaW.PrintMore
set_option linter.unusedVariables false
set_option linter.unusedSimpArgs false
theorem FnExactFormatGrades : laws_FnExactFormatGrades.Pure := by
  intro n l hn hl hw
  refine Ev.rounds (g := fun k => laws_FnExactFormatGrades.f k n l) (r := true) ?_
  unfold laws_FnExactFormatGrades.f
  refine Ev_sz (szMatrix_eq n l 1048576 hl (by omega) (by omega)) ?_
  by_cases hz : (l.length : Int) ≤ 1048576
  · rw [if_pos hz]
    have h : l.length ≤ 1048576 := by omega
    obtain ⟨r, h1, h2⟩ : ∃ r, Ev (fun k => spec_FormatGrades.f k n l) r ∧ Ev (fun k => impl_FormatGrades.f k n l) r := by
      by_cases g : GV n l
      · obtain ⟨n, rfl⟩ := GV_nat g
        exact ⟨_, sFormat n l g, iFormat n l g⟩
      · refine ⟨⟨#[]⟩, ?_, ?_⟩
        · unfold spec_FormatGrades.f
          exact Ev.bind (sGV n l hl) (Ev_f (by rw [decide_eq_false g]; simp) (Ev.now _))
        · unfold impl_FormatGrades.f
          exact Ev.bind (iGV n l hl) (Ev_f (by rw [decide_eq_false g]; simp) (Ev.now _))
    refine Ev_f (by omega) ?_
    refine Ev.bind (toMatrix_ev n l h) ?_
    refine Ev.bind h1 ?_
    refine Ev.bind (toMatrix_ev n l h) ?_
    refine Ev.bind h2 ?_
    refine Ev_t rfl ?_
    refine Ev.bind (toMatrix_ev n l h) ?_
    refine Ev.bind (eqMatrix_ev n l (by omega)) ?_
    exact Ev_t rfl (Ev.now _)
  · rw [if_neg hz]
    exact Ev_t (by omega) (Ev.now _)

end Go.Proofs.Ytengegdaiphfeaa.Pure
