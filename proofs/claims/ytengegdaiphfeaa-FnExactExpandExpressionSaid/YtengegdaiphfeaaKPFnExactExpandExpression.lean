/- Proved: the program's ExpandExpression returns what the reference's returns, for every text and every number. No condition. -/
import Derived.Test.YtengegdaiphfeaaKFnExactExpandExpression1
import Derived.Test.YtengegdaiphfeaaKFnExactExpandExpression2
import Derived.Test.YtengegdaiphfeaaKFnExactExpandExpression4
namespace Go.Proofs.Ytengegdaiphfeaa.Pure
open Go.RowKit Go.Proofs.Ytengegdaiphfeaa.X Go.Proofs.Ytengegdaiphfeaa.Y Go.Proofs.YtengegdaiphfeaaW.PrintWords Go.Proofs.YtengegdaiphfeaaW.PrintLast Go.Proofs.YtengegdaiphfeaaW.PrintMore
set_option linter.unusedVariables false
set_option linter.unusedSimpArgs false
theorem FnExactExpandExpression : laws_FnExactExpandExpression.Pure := by
  intro s n hs hn
  have hn := wf_in hn
  refine Ev.rounds (g := fun k => laws_FnExactExpandExpression.f k s n) (r := true) ?_
  unfold laws_FnExactExpandExpression.f
  by_cases hz : (s.size : Int) > 1048576
  · exact Ev_t hz (Ev.now _)
  refine Ev_f hz ?_
  obtain ⟨v, h1, h2⟩ := expand_both s n hn.2
  refine Ev.bind h1 (Ev.bind h2 ?_)
  exact Ev_t rfl (Ev_f (by simp) (Ev.now _))

end Go.Proofs.Ytengegdaiphfeaa.Pure
