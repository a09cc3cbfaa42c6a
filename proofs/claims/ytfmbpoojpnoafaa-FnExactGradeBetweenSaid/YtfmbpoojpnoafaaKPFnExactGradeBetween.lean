/- Proved: the program's GradeBetween returns what the reference's returns, for every automaton and every matrix of any numbers and steps, and leaves its arguments as they were. No condition. -/
import Derived.Test.YtfmbpoojpnoafaaKFnExactGradeBetween5
import Derived.Test.YtfmbpoojpnoafaaKFnExactGradeBetween1
namespace Go.Proofs.Ytfmbpoojpnoafaa.Pure
open Go.RowKit Go.Proofs.Ytfmbpoojpnoafaa.X Go.Proofs.Ytfmbpoojpnoafaa.Y Go.Proofs.YtfmbpoojpnoafaaW.PrintWords Go.Proofs.YtfmbpoojpnoafaaW.PrintLast Go.Proofs.YtfmbpoojpnoafaaW.PrintMore
set_option linter.unusedVariables false
set_option linter.unusedSimpArgs false
theorem FnExactGradeBetween : laws_FnExactGradeBetween.Pure := by
  intro n s f t m l hn hs hs2 hf hf2 ht ht2 hm hl hl2
  refine Ev.rounds (g := fun k => laws_FnExactGradeBetween.f k n s f t m l) (r := true) ?_
  unfold laws_FnExactGradeBetween.f
  obtain ⟨z, hz, hc⟩ := szAutomaton_ev n s f t hs hf ht (fun x hx => (ht2 x hx).2.1) 1048576 (by omega) (by omega)
  refine Ev.bind hz ?_
  by_cases h0 : z < 0
  · exact Ev_t h0 (Ev.now _)
  have hc := hc.resolve_left h0
  refine Ev_f h0 ?_
  refine Ev.step (fun k => by simp only [laws_FnExactGradeBetween.j0] <;> exact rfl) ?_
  refine Ev_sz (szMatrix_eq m l z hl hc.1 (by omega)) ?_
  by_cases h1 : (l.length : Int) ≤ z
  case neg => exact Ev_t (by rw [if_neg h1]; omega) (Ev.now _)
  rw [if_pos h1]
  have h : l.length ≤ 1048576 := by omega
  refine Ev_f (by omega) ?_
  have a1 := toAutomaton_ev n s f t hc.2.2.1 hc.2.2.2.1 hc.2.2.2.2
  have hT : (t.map cvS).length ≤ 1000000000 := by rw [List.length_map]; omega
  refine Ev.step (fun k => by simp only [laws_FnExactGradeBetween.j1] <;> exact rfl) ?_
  refine Ev.bind a1 (Ev.bind (toMatrix_ev m l h) ?_)
  refine Ev.bind (sGradeB n s f (t.map cvS) m l (by omega) (by omega) hT hl) ?_
  refine Ev.bind a1 (Ev.bind (toMatrix_ev m l h) ?_)
  refine Ev.bind (iGradeB n s f (t.map cvS) m l (by omega) (by omega) hT hl) ?_
  refine Ev_t rfl ?_
  refine Ev.step (fun k => by simp only [laws_FnExactGradeBetween.j2] <;> exact rfl) ?_
  refine Ev.bind a1 (Ev.bind (eqAutomaton_ev n s f _ (by omega) (by omega) hT) ?_)
  refine Ev_t rfl ?_
  refine Ev.step (fun k => by simp only [laws_FnExactGradeBetween.j3] <;> exact rfl) ?_
  refine Ev.bind (toMatrix_ev m l h) (Ev.bind (eqMatrix_ev m l (by omega)) ?_)
  exact Ev_t rfl (Ev.now _)

end Go.Proofs.Ytfmbpoojpnoafaa.Pure
