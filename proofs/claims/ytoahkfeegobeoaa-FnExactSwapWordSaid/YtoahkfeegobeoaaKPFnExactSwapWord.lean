/- Proved: the program's SwapWord returns what the reference's returns, for every text. No condition. -/
import Derived.Test.YtoahkfeegobeoaaKFnExactSwapWord1
namespace Go.Proofs.Ytoahkfeegobeoaa.Pure
open Go.RowKit Go.Proofs.Ytoahkfeegobeoaa.X Go.Proofs.Ytoahkfeegobeoaa.Y Go.Proofs.YtoahkfeegobeoaaW.PrintWords Go.Proofs.YtoahkfeegobeoaaW.PrintLast Go.Proofs.YtoahkfeegobeoaaW.PrintMore
set_option linter.unusedVariables false
set_option linter.unusedSimpArgs false
theorem sw_loop (s : ByteArray) (hw : wordB (L s) = true) (hn : s.size ≤ 4000000) : ∀ (e u : List UInt8), L s = u ++ e → Ev (fun k => spec_SwapWord.l0 k s (B (u.map (fun (x : UInt8) => x ^^^ 3))) s.size u.length) (B ((L s).map (fun (x : UInt8) => x ^^^ 3))) := by
  intro e
  induction e with
  | nil =>
    intro u h
    have hz := size_suffix h
    simp only [List.length_nil] at hz
    refine Ev.step (f := fun _ => some (B (u.map (fun (x : UInt8) => x ^^^ 3)))) (fun k => ?_) ((Ev.now _).is (by rw [h, List.append_nil]))
    simp only [spec_SwapWord.l0]
    rw [if_neg (by omega)]
  | cons c e ih =>
    intro u h
    have hz := size_suffix h
    simp only [List.length_cons] at hz
    have hl : (u.length : Int) + 1 = (((u ++ [c]).length : Nat) : Int) := by simp
    have h2 := ih (u ++ [c]) (by rw [h]; simp)
    have hc : wOk c = true := by
      unfold wordB at hw
      rw [h] at hw
      simp only [Bool.and_eq_true, List.all_append, List.all_cons] at hw
      exact hw.1.2.1
    have hx : s.extract u.length (u ++ [c]).length = B [c] := by
      apply L_inj
      rw [L_extract, h]
      unfold B
      rw [L_mk, show (u ++ [c]).length = u.length + 1 by simp, List.take_length_add_append]
      simp
    have ho : spec_l5Other.f (B [c]) = some (B [c ^^^ 3]) := by
      unfold spec_l5Other.f
      rw [toList_L]
      unfold B
      rw [L_mk]
      unfold wOk at hc
      simp only [Bool.or_eq_true, beq_iff_eq] at hc
      rcases hc with rfl | rfl <;> rfl
    refine Ev.step (f := ?f1) (fun k => ?h1) ?k1
    case h1 => simp only [spec_SwapWord.l0]; rw [if_pos (by omega), w64 (x := (u.length : Int) + 1) (by omega) (by omega), if_pos (show 0 ≤ (u.length : Int) by omega), if_pos (show (u.length : Int) ≤ (u.length : Int) + 1 by omega), if_pos (show (u.length : Int) + 1 ≤ (s.size : Int) by omega), hl, Int.toNat_natCast, Int.toNat_natCast, hx, ho, Option.bind_some, if_pos (show (B (u.map (fun (x : UInt8) => x ^^^ 3))).size + (B [c ^^^ 3]).size ≤ 9223372036854775807 by rw [B_size, B_size, List.length_map]; simp only [List.length_cons, List.length_nil]; omega), B_add] <;> exact rfl
    refine Ev.bind ((sWord_ev s hn).is hw) ?_
    refine Ev.congr (fun k => if_pos rfl) ?_
    rw [List.map_append] at h2
    exact h2
theorem FnExactSwapWord : laws_FnExactSwapWord.Pure := by
  intro s hs
  refine Ev.rounds ?_
  unfold laws_FnExactSwapWord.f
  by_cases hn : (s.size : Int) > 1048576
  · exact Ev.congr (fun k => if_pos hn) (Ev.now _)
  · refine Ev.congr (fun k => if_neg hn) ?_
    by_cases hw : wordB (L s) = true
    · have h1 := sw_loop s hw (by omega) (L s) [] rfl
      have h2 : Ev (fun k => impl_SwapWord.f k s) (B ((L s).map (fun (x : UInt8) => x ^^^ 3))) := by
        unfold impl_SwapWord.f
        refine Ev.bind ((iWord_ev s (by omega)).is hw) ?_
        refine Ev.congr (fun k => if_pos rfl) ?_
        refine Ev.congr (fun k => if_pos (by omega)) ?_
        exact (Ev.now _).is rfl
      refine Ev.bind (show Ev (fun k => spec_SwapWord.f k s) _ from h1) (Ev.bind h2 ?_)
      exact Ev.congr (fun k => if_pos rfl) (Ev.now _)
    · have hw' : wordB (L s) = false := Bool.eq_false_iff.mpr hw
      have h1 : Ev (fun k => spec_SwapWord.f k s) (B []) := by
        show Ev (fun k => spec_SwapWord.l0 k s (B []) s.size 0) (B [])
        by_cases hz : s.size = 0
        · exfalso
          apply hw
          rw [L_size] at hz
          rw [List.length_eq_zero_iff.mp hz]
          rfl
        · refine Ev.step (f := ?f2) (fun k => ?h2) ?k2
          case h2 => simp only [spec_SwapWord.l0]; rw [if_pos (by omega)] <;> exact rfl
          refine Ev.bind ((sWord_ev s (by omega)).is hw') ?_
          exact Ev.congr (fun k => if_neg (by decide)) (Ev.now _)
      have h2 : Ev (fun k => impl_SwapWord.f k s) (B []) := by
        unfold impl_SwapWord.f
        refine Ev.bind ((iWord_ev s (by omega)).is hw') ?_
        exact Ev.congr (fun k => if_neg (by decide)) (Ev.now _)
      refine Ev.bind h1 (Ev.bind h2 ?_)
      exact Ev.congr (fun k => if_pos rfl) (Ev.now _)

end Go.Proofs.Ytoahkfeegobeoaa.Pure
