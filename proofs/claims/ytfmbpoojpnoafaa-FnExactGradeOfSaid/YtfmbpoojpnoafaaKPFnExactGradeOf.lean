/- Proved: the program's GradeOf returns what the reference's returns, and leaves its argument alone, for every automaton and every text. No condition. -/
import Derived.Test.YtfmbpoojpnoafaaKFnExactGradeOf3
import Derived.Test.YtfmbpoojpnoafaaKFnExactGradeOf5
import Derived.Test.YtfmbpoojpnoafaaKFnExactGradeOf1
import Derived.Test.YtfmbpoojpnoafaaKFnExactGradeOf6
namespace Go.Proofs.Ytfmbpoojpnoafaa.Pure
open Go.RowKit Go.Proofs.Ytfmbpoojpnoafaa.X Go.Proofs.Ytfmbpoojpnoafaa.Y Go.Proofs.YtfmbpoojpnoafaaW.PrintWords Go.Proofs.YtfmbpoojpnoafaaW.PrintLast Go.Proofs.YtfmbpoojpnoafaaW.PrintMore
set_option linter.unusedVariables false
set_option linter.unusedSimpArgs false
theorem gradeOf_both (n : Int) (s f : List Int) (t : List S92) (x : ByteArray) (hs : s.length ≤ 1000000000) (hf : f.length ≤ 1000000000) (hl : t.length ≤ 1000000000) : ∃ r : Int, Ev (fun k => spec_GradeOf.f k n s f t x) r ∧ Ev (fun k => impl_GradeOf.f k n s f t x) r := by
  obtain ⟨⟨rn, rl, rb⟩, hr, hg, h1, h2⟩ := value_both n s f t x hs hf hl
  cases rb with
  | false => exact ⟨-1, by unfold spec_GradeOf.f; exact Ev.bind h1 (Ev_f (by simp) (Ev.now _)), by unfold impl_GradeOf.f; exact Ev.bind h2 (Ev_f (by simp) (Ev.now _))⟩
  | true =>
    obtain ⟨g1, g2, g3⟩ := hg rfl
    have g2 : rn = n := g2
    subst g2
    obtain ⟨z1, z2, z3, z4, z5⟩ := AV_parts g1
    have g3 : GV rn rl := g3
    refine ⟨betw rn s f rl, ?_, ?_⟩
    · unfold spec_GradeOf.f
      exact Ev.bind h1 (Ev_t rfl (Ev.bind (sBetw rn z1 s f t rl g3.1.2.2.1 (mrk_mem z3) (mrk_mem z4) hs hf) (Ev.now _)))
    · unfold impl_GradeOf.f
      refine Ev.bind h2 (Ev_t rfl (Ev.bind (iGradeB rn s f t rn rl hs hf hl ?_) ((Ev.now _).is ?_)))
      · have := len_of_GV g3; rw [maxLen_eq]; omega
      · unfold grB; rw [if_pos ⟨g1, g3, rfl⟩]
theorem FnExactGradeOf : laws_FnExactGradeOf.Pure := by
  intro n s f t w hn hs hs2 hf hf2 ht ht2 hw
  refine Ev.rounds (g := fun k => laws_FnExactGradeOf.f k n s f t w) (r := true) ?_
  unfold laws_FnExactGradeOf.f
  by_cases h0 : (w.size : Int) > 1048576
  · exact Ev_t h0 (Ev.now _)
  refine Ev_f h0 ?_
  refine Ev.step (fun k => by simp only [laws_FnExactGradeOf.j0] <;> exact rfl) ?_
  obtain ⟨z, hz, hc⟩ := szAutomaton_ev n s f t hs hf ht (fun x hx => (ht2 x hx).2.1) 1048576 (by omega) (by omega)
  refine Ev.bind hz ?_
  by_cases h0 : z < 0
  · exact Ev_t h0 (Ev.now _)
  have hc := hc.resolve_left h0
  refine Ev_f h0 ?_
  have a1 := toAutomaton_ev n s f t hc.2.2.1 hc.2.2.2.1 hc.2.2.2.2
  have hT : (t.map cvS).length ≤ 1048576 := by rw [List.length_map]; omega
  obtain ⟨r, h1, h2⟩ := gradeOf_both n s f (t.map cvS) w (by omega) (by omega) (by omega)
  refine Ev.step (fun k => by simp only [laws_FnExactGradeOf.j1] <;> exact rfl) ?_
  refine Ev.bind a1 (Ev.bind h1 (Ev.bind a1 (Ev.bind h2 (Ev_t rfl ?_))))
  refine Ev.step (fun k => by simp only [laws_FnExactGradeOf.j2] <;> exact rfl) ?_
  refine Ev.bind a1 (Ev.bind (eqAutomaton_ev n s f _ (by omega) (by omega) (by omega)) ?_)
  exact Ev_t rfl (Ev.now _)

end Go.Proofs.Ytfmbpoojpnoafaa.Pure
