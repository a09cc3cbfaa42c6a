/- Proved: the program's RepeatExpression returns what the reference's returns, for every text. No condition. -/
import Derived.Test.YtoahkfeegobeoaaXImplExpressionValid
import Derived.Test.YtoahkfeegobeoaaXImplRepeatExpression
import Derived.Test.YtoahkfeegobeoaaXLawsFnExactRepeatExpression
import Derived.Test.YtoahkfeegobeoaaXSpecRepeatExpression
import Derived.Test.YtoahkfeegobeoaaXW
import Derived.Test.YtoahkfeegobeoaaYBytes
import Derived.Test.YtoahkfeegobeoaaYParts
namespace Go.Proofs.Ytoahkfeegobeoaa.Pure
open Go.RowKit Go.Proofs.Ytoahkfeegobeoaa.X Go.Proofs.Ytoahkfeegobeoaa.Y Go.Proofs.YtoahkfeegobeoaaW.PrintWords Go.Proofs.YtoahkfeegobeoaaW.PrintLast Go.Proofs.YtoahkfeegobeoaaW.PrintMore
set_option linter.unusedVariables false
set_option linter.unusedSimpArgs false
theorem FnExactRepeatExpression : laws_FnExactRepeatExpression.Pure := by
  intro s hs
  obtain ⟨b, ps, h1, h2⟩ := valid_both s
  refine Ev.rounds (g := fun k => laws_FnExactRepeatExpression.f k s) (r := true) ?_
  by_cases hz : (s.size : Int) > 1048576
  · exact Ev.congr (f := fun _ => some true) (fun k => by unfold laws_FnExactRepeatExpression.f; rw [if_pos hz]) (Ev.now _)
  · refine Ev.congr (f := ?f1) (fun k => ?h1) ?k1
    case h1 => unfold laws_FnExactRepeatExpression.f; rw [if_neg hz] <;> exact rfl
    let out : ByteArray := if b = true then (if (s.size : Int) + 3 > 120 then ⟨#[]⟩ else ((⟨#[40]⟩ : ByteArray) ++ s) ++ (⟨#[41, 35]⟩ : ByteArray)) else ⟨#[]⟩
    refine Ev.bind (a := out) ?_ (Ev.bind (a := out) ?_ ?_)
    · refine Ev.congr (f := ?f2) (fun k => ?h2) ?k2
      case h2 => unfold spec_RepeatExpression.f; exact rfl
      refine Ev.bind h1 (Ev.congr (f := fun _ => some out) (fun k => ?_) (Ev.now _))
      rw [w64 (by omega) (by omega), if_pos (show 1 + s.size ≤ 9223372036854775807 by omega), if_pos (show 1 + s.size + 2 ≤ 9223372036854775807 by omega)]
      unfold out; split
      · split <;> rfl
      · rfl
    · refine Ev.congr (f := ?f3) (fun k => ?h3) ?k3
      case h3 => unfold impl_RepeatExpression.f; rw [if_pos (show 1 + s.size ≤ 9223372036854775807 by omega), if_pos (show 1 + s.size + 2 ≤ 9223372036854775807 by omega)] <;> exact rfl
      refine Ev.bind (a := b) ?_ (Ev.congr (f := fun _ => some out) (fun k => ?_) (Ev.now _))
      · refine Ev.congr (f := ?f4) (fun k => ?h4) ?k4
        case h4 => unfold impl_ExpressionValid.f; exact rfl
        exact Ev.bind h2 (Ev.now _)
      · unfold out; split
        · split
          · rw [if_pos (by omega)]
          · rw [if_neg (by omega)]
        · rfl
    · exact Ev.congr (f := fun _ => some true) (fun k => by simp) (Ev.now _)

end Go.Proofs.Ytoahkfeegobeoaa.Pure
