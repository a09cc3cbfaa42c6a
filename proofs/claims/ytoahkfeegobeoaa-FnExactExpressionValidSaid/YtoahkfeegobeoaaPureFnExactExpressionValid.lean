/- Proved: the program's ExpressionValid returns what the reference's returns, for every text. No condition. -/
import Derived.Test.YtoahkfeegobeoaaXImplExpressionValid
import Derived.Test.YtoahkfeegobeoaaXLawsFnExactExpressionValid
import Derived.Test.YtoahkfeegobeoaaXW
import Derived.Test.YtoahkfeegobeoaaYParts
namespace Go.Proofs.Ytoahkfeegobeoaa.Pure
open Go.RowKit Go.Proofs.Ytoahkfeegobeoaa.X Go.Proofs.Ytoahkfeegobeoaa.Y Go.Proofs.YtoahkfeegobeoaaW.PrintWords Go.Proofs.YtoahkfeegobeoaaW.PrintLast Go.Proofs.YtoahkfeegobeoaaW.PrintMore
set_option linter.unusedVariables false
set_option linter.unusedSimpArgs false
theorem FnExactExpressionValid : laws_FnExactExpressionValid.Pure := by
  intro s hs
  obtain ⟨b, ps, h1, h2⟩ := valid_both s
  refine Ev.rounds (g := fun k => laws_FnExactExpressionValid.f k s) (r := true) ?_
  by_cases hz : (s.size : Int) > 1048576
  · exact Ev.congr (f := fun _ => some true) (fun k => by unfold laws_FnExactExpressionValid.f; rw [if_pos hz]) (Ev.now _)
  · refine Ev.congr (f := ?f1) (fun k => ?h1) ?k1
    case h1 => unfold laws_FnExactExpressionValid.f; rw [if_neg hz] <;> exact rfl
    refine Ev.bind h1 (Ev.bind (a := b) ?_ ?_)
    · refine Ev.congr (f := ?f2) (fun k => ?h2) ?k2
      case h2 => unfold impl_ExpressionValid.f; exact rfl
      exact Ev.bind h2 (Ev.now _)
    · exact Ev.congr (f := fun _ => some true) (fun k => by simp) (Ev.now _)

end Go.Proofs.Ytoahkfeegobeoaa.Pure
