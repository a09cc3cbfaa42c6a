/- Proved: what the law says of IdempotentOf holds for every code. No condition. -/
import Derived.Test.YtengegdaiphfeaaKFnIdempotentOf4
import Derived.Test.YtengegdaiphfeaaKFnIdempotentOf1
import Derived.Test.YtengegdaiphfeaaKFnIdempotentOf5
namespace Go.Proofs.Ytengegdaiphfeaa.Pure
open Go.RowKit Go.Proofs.Ytengegdaiphfeaa.X Go.Proofs.Ytengegdaiphfeaa.Y Go.Proofs.YtengegdaiphfeaaW.PrintWords Go.Proofs.YtengegdaiphfeaaW.PrintLast Go.Proofs.YtengegdaiphfeaaW.PrintMore
set_option linter.unusedVariables false
set_option linter.unusedSimpArgs false
theorem FnIdempotentOf : laws_FnIdempotentOf.Pure := by
  intro l hl _ hw
  refine Ev.rounds (g := fun k => laws_FnIdempotentOf.f k l) (r := true) ?_
  unfold laws_FnIdempotentOf.f
  by_cases hz : (l.length : Int) > 1048576
  · exact Ev_t hz (Ev.now _)
  refine Ev_f hz ?_
  obtain ⟨n, c, hc, hd⟩ := drawIdempotentOf_ev l (bytes_of hw)
  refine Ev.bind hd ?_
  by_cases g : GV n c
  · obtain ⟨n, rfl⟩ := GV_nat g
    obtain ⟨m, hm, hi, hno, h1, h2⟩ := idemOf_found n c g
    have hp := GV_pw n c g m
    have h16 := len_of_GV hp
    refine Ev.bind h2 ?_
    refine Ev.bind h1 ?_
    refine Ev.bind (daMatrix_ev n (pw n c m) (by omega)) ?_
    refine Ev_t rfl (Ev_t rfl (Ev_f (by simp) ?_))
    refine Ev.step (fun k => by simp only [laws_FnIdempotentOf.j0] <;> exact rfl) ?_
    refine Ev_f (by simp) ?_
    have e : wrap64 (((m + 1 : Nat) : Int) - 1) = (m : Int) := one_down m (by omega)
    show Ev (fun k => laws_FnIdempotentOf.l0 k (wrap64 (((m + 1 : Nat) : Int) - 1)) 0 n c n (pw n c m) n c) true
    rw [e]
    clear e
    refine up_loop m (fun i k => laws_FnIdempotentOf.l0 k (m : Int) (i : Int) n c n (pw n c m) n (pw n c i)) true (fun i him hs => ?_) ?_
    · have gi := GV_pw n c g i
      refine Ev.step (f := ?f1) (fun k => ?h1) ?k1
      case h1 => simp only [laws_FnIdempotentOf.l0]; rw [if_pos (by omega)] <;> exact rfl
      refine Ev.bind (iIdem n _ (big16 gi)) (Ev_f (by rw [decide_eq_false (hno i him)]; simp) ?_)
      refine Ev.bind (iMul n _ c gi g) ?_
      have e : wrap64 ((i : Int) + 1) = ((i + 1 : Nat) : Int) := one_up i (by omega)
      show Ev (fun k => laws_FnIdempotentOf.l0 k (m : Int) (wrap64 ((i : Int) + 1)) n c n (pw n c m) n (mulL n (pw n c i) c)) true
      rw [e]; exact hs
    · refine Ev.step (f := ?f2) (fun k => ?h2) ?k2
      case h2 => simp only [laws_FnIdempotentOf.l0]; rw [if_neg (by omega)] <;> exact rfl
      obtain ⟨m', _, hi', hno', _, h2'⟩ := idemOf_found n (pw n c m) hp
      have hm0 : m' = 0 := by
        rcases m' with _ | m'
        · rfl
        · exact absurd (show Idem n (pw n (pw n c m) 0) from hi) (hno' 0 (by omega))
      subst hm0
      refine Ev.bind h2' (Ev.bind (daMatrix_ev n _ (by omega)) (Ev_t rfl ?_))
      refine Ev.bind (iIdem n _ (by rw [maxLen_eq]; omega)) (Ev_t (decide_eq_true hi) ?_)
      refine Ev.bind (sIdem n _ (by rw [maxLen_eq]; omega)) (Ev_t (decide_eq_true hi) (Ev_t rfl ?_))
      exact Ev.bind (daMatrix_ev n (pw n c m) (by omega)) (Ev.now _)
  · obtain ⟨h1, h2⟩ := idemOf_not n c (by omega) g
    refine Ev.bind h2 ?_
    refine Ev.bind h1 ?_
    refine Ev.bind (daMatrix_ev 0 [] (by simp)) ?_
    refine Ev_t rfl (Ev_t rfl (Ev_f (by simp) ?_))
    refine Ev.step (fun k => by simp only [laws_FnIdempotentOf.j0] <;> exact rfl) ?_
    refine Ev_t (by simp) ?_
    refine Ev.bind (daMatrix_ev 0 [] (by simp)) ?_
    exact Ev_t rfl (Ev_t (by trivial) ((Ev.now _).is (by simp)))

end Go.Proofs.Ytengegdaiphfeaa.Pure
