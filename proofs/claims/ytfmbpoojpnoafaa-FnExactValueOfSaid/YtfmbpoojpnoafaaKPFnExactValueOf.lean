/- Proved: the program's ValueOf returns what the reference's returns, in memory of its own, and leaves its arguments alone, for every automaton and every text. No condition. -/
import Derived.Test.YtfmbpoojpnoafaaKFnExactValueOf5
import Derived.Test.YtfmbpoojpnoafaaKFnExactValueOf1
import Derived.Test.YtfmbpoojpnoafaaKFnExactValueOf6
namespace Go.Proofs.Ytfmbpoojpnoafaa.Pure
open Go.RowKit Go.Proofs.Ytfmbpoojpnoafaa.X Go.Proofs.Ytfmbpoojpnoafaa.Y Go.Proofs.YtfmbpoojpnoafaaW.PrintWords Go.Proofs.YtfmbpoojpnoafaaW.PrintLast Go.Proofs.YtfmbpoojpnoafaaW.PrintMore
set_option linter.unusedVariables false
set_option linter.unusedSimpArgs false
theorem FnExactValueOf : laws_FnExactValueOf.Pure := by
  intro n s f t w hn hs hs2 hf hf2 ht ht2 hw
  refine Ev.rounds (g := fun k => laws_FnExactValueOf.f k n s f t w) (r := true) ?_
  unfold laws_FnExactValueOf.f
  by_cases h0 : (w.size : Int) > 1048576
  · exact Ev_t h0 (Ev.now _)
  refine Ev_f h0 ?_
  obtain ⟨z, hz, hc⟩ := szAutomaton_ev n s f t hs hf ht (fun x hx => (ht2 x hx).2.1) 1048576 (by omega) (by omega)
  refine Ev.bind hz ?_
  by_cases h0 : z < 0
  · exact Ev_t h0 (Ev.now _)
  have hc := hc.resolve_left h0
  refine Ev_f h0 ?_
  have a1 := toAutomaton_ev n s f t hc.2.2.1 hc.2.2.2.1 hc.2.2.2.2
  have hT : (t.map cvS).length ≤ 1048576 := by rw [List.length_map]; omega
  obtain ⟨r, hr, _, h1, h2⟩ := value_both n s f (t.map cvS) w (by omega) (by omega) (by omega)
  obtain ⟨rn, rl, rb⟩ := r
  have hr : rl.length ≤ 16 := hr
  refine Ev.bind a1 (Ev.bind h1 (Ev.bind a1 (Ev.bind h2 ?_)))
  refine Ev.bind (eqMatrix_ev rn rl (by omega)) ?_
  refine Ev_t rfl ?_
  refine Ev.step (fun k => by simp only [laws_FnExactValueOf.j0] <;> exact rfl) ?_
  refine Ev_f (by simp) ?_
  refine Ev.bind a1 (Ev.bind (eqAutomaton_ev n s f _ (by omega) (by omega) (by omega)) ?_)
  refine Ev_t rfl ?_
  obtain ⟨z, s', f', t', hm, hz0, hz1⟩ := markAutomaton_ev n s f (t.map cvS) hc.2.2.1 hc.2.2.2.1 hT
  refine Ev.bind hm ?_
  refine Ev_f (by show ¬ z < 0; omega) ?_
  refine Ev.bind (eqMatrix_ev rn rl (by omega)) ?_
  refine Ev_t rfl ?_
  refine Ev.step (fun k => by simp only [laws_FnExactValueOf.j1] <;> exact rfl) ?_
  refine Ev_f (by simp) ?_
  refine Ev.bind (markMatrix_ev rn rl 1 (by omega) (by omega) (by omega)) ?_
  refine Ev.bind (heldMatrix_ev rn rl.length 1 (by omega) (by omega) (by omega)) ?_
  refine Ev_f (by omega) ?_
  refine Ev_t rfl ?_
  refine Ev.bind a1 (Ev.bind h2 ?_)
  refine Ev.bind (eqMatrix_ev rn rl (by omega)) ?_
  refine Ev_t rfl ?_
  refine Ev.step (fun k => by simp only [laws_FnExactValueOf.j2] <;> exact rfl) ?_
  refine Ev_f (by simp) ?_
  refine Ev.bind (heldMatrix_ev rn rl.length 1 (by omega) (by omega) (by omega)) ?_
  refine Ev_f (by omega) ?_
  exact Ev_t rfl (Ev.now _)

end Go.Proofs.Ytfmbpoojpnoafaa.Pure
