/- Proved: what the law says of Stabilise holds for every code. No condition. -/
import Derived.Test.YtengegdaiphfeaaKFnStabilise2
import Derived.Test.YtengegdaiphfeaaKFnStabilise5
import Derived.Test.YtengegdaiphfeaaKFnStabilise1
import Derived.Test.YtengegdaiphfeaaKFnStabilise6
import Derived.Test.YtengegdaiphfeaaKFnStabilise7
namespace Go.Proofs.Ytengegdaiphfeaa.Pure
open Go.RowKit Go.Proofs.Ytengegdaiphfeaa.X Go.Proofs.Ytengegdaiphfeaa.Y Go.Proofs.YtengegdaiphfeaaW.PrintWords Go.Proofs.YtengegdaiphfeaaW.PrintLast Go.Proofs.YtengegdaiphfeaaW.PrintMore
set_option linter.unusedVariables false
set_option linter.unusedSimpArgs false
theorem FnStabilise : laws_FnStabilise.Pure := by
  intro l hl _ hw
  refine Ev.rounds (g := fun k => laws_FnStabilise.f k l) (r := true) ?_
  unfold laws_FnStabilise.f
  by_cases hz : (l.length : Int) > 1048576
  · exact Ev_t hz (Ev.now _)
  refine Ev_f hz ?_
  obtain ⟨n, c, hc, hd⟩ := drawStabilise_ev l (bytes_of hw)
  have hm : c.length ≤ maxLen := by rw [maxLen_eq]; omega
  refine Ev.bind hd ?_
  refine Ev.bind (iStab n c hm) ?_
  refine Ev.bind (sStab n c hm) ?_
  by_cases g : Idem n c
  · have e : stabR n c = (n, stL n.toNat c, true) := by unfold stabR; rw [if_pos g]
    rw [e]
    obtain ⟨n, rfl⟩ := GV_nat g.1
    show Ev (fun k => (laws_daMatrix.f k (n : Int) (stL n c) n (stL n c)).bind _) true
    have hs := GV_st n c g.1
    have h16 := len_of_GV hs
    have hi : mulL n c c = c := g.2
    have gs : Idem n (stL n c) := ⟨hs, st_idem hi⟩
    have hms : (stL n c).length ≤ maxLen := by rw [maxLen_eq]; omega
    have hgr := ((GV_iff n c).mp g.1).2.2.2
    have hlc := GV_len g.1
    have hls := GV_len hs
    refine Ev.bind (daMatrix_ev n (stL n c) (by omega)) ?_
    refine Ev_t rfl (Ev_f (by simp) ?_)
    refine Ev.bind (iIdem n c hm) ?_
    refine Ev_f (by rw [decide_eq_true g]; simp) ?_
    refine Ev.step (fun k => by simp only [laws_FnStabilise.j0] <;> exact rfl) ?_
    refine Ev_f (by simp) ?_
    refine Ev.bind (iStab n (stL n c) hms) ?_
    have e2 : stabR n (stL n c) = ((n : Int), stL n c, true) := by unfold stabR; rw [if_pos gs]; show ((n : Int), stL n (stL n c), true) = _; rw [st_st hi]
    rw [e2]
    have i1 := iMul n c (stL n c) g.1 hs
    have i2 := iMul n (stL n c) c hs g.1
    rw [st_left hi] at i1
    rw [st_right hi] at i2
    refine Ev.bind i1 (Ev.bind i2 ?_)
    show Ev (fun k => laws_FnStabilise.l0 k true (stL n c) ((stL n c).length : Int) ((0 : Nat) : Int) n c n (stL n c) n (stL n c) n (stL n c) n (stL n c)) true
    refine up_loop (stL n c).length (fun j k => laws_FnStabilise.l0 k true (stL n c) ((stL n c).length : Int) (j : Int) n c n (stL n c) n (stL n c) n (stL n c) n (stL n c)) true (fun j hj hs2 => ?_) ?_
    · have hj' : j < n * n := by omega
      have hnpos : 0 < n := (GV_le g.1).2
      have hdi : j / n < n := Nat.div_lt_of_lt_mul hj'
      have hdk : j % n < n := Nat.mod_lt _ hnpos
      have hjn : j / n * n + j % n = j := by rw [Nat.mul_comm]; exact Nat.div_add_mod j n
      have q1 : rd (stL n c) (j : Int) = stE n c (j / n) (j % n) := by
        rw [rd_nat]
        have := st_get (n := n) (a := c) (j / n) (j % n) hdi hdk
        rw [hjn] at this; exact this
      have q2 := st_ge hi hgr (j / n) (j % n) hdi hdk
      have q3 := st_never hi hgr (j / n) (j % n) hdi hdk
      rw [hjn, ← rd_nat, ← q1] at q2
      rw [hjn, ← rd_nat, ← q1] at q3
      have hjc : (j : Int) < (c.length : Int) := by omega
      have hjs : (j : Int) < ((stL n c).length : Int) := by omega
      have up : wrap64 ((j : Int) + 1) = ((j + 1 : Nat) : Int) := one_up j (by omega)
      have q4 : ¬ rd (stL n c) (j : Int) < rd c (j : Int) := Int.not_lt.mpr q2
      refine Ev.step (fun k => ?_) hs2
      simp only [laws_FnStabilise.l0]
      rw [if_pos hjs, if_pos (Int.natCast_nonneg _), if_pos hjs, if_pos hjc, if_neg q4, up]
      by_cases e3 : rd (stL n c) (j : Int) = 3
      · rw [if_pos e3, if_pos ((q3 e3).trans e3.symm)]
      · rw [if_neg e3]
    · refine Ev.step (f := ?f1) (fun k => ?h1) ?k1
      case h1 => simp only [laws_FnStabilise.l0]; rw [if_neg (by omega), if_pos trivial] <;> exact rfl
      refine Ev.bind (daMatrix_ev n (stL n c) (by omega)) (Ev_t rfl ?_)
      refine Ev.bind (iIdem n (stL n c) hms) (Ev_t (decide_eq_true gs) ?_)
      refine Ev.bind (daMatrix_ev n (stL n c) (by omega)) (Ev_t rfl ?_)
      exact Ev.bind (daMatrix_ev n (stL n c) (by omega)) (Ev.now _)
  · have e : stabR n c = (0, [], false) := by unfold stabR; rw [if_neg g]
    rw [e]
    refine Ev.bind (daMatrix_ev 0 [] (by simp)) ?_
    refine Ev_t rfl (Ev_f (by simp) ?_)
    refine Ev.bind (iIdem n c hm) ?_
    refine Ev_f (by rw [decide_eq_false g]; simp) ?_
    refine Ev.step (fun k => by simp only [laws_FnStabilise.j0] <;> exact rfl) ?_
    refine Ev_t (by simp) ?_
    refine Ev.bind (daMatrix_ev 0 [] (by simp)) ?_
    refine Ev_t rfl (Ev_t (by simp) ?_)
    exact Ev.bind (iIdem n c hm) ((Ev.now _).is (by rw [decide_eq_false g]; simp))

end Go.Proofs.Ytengegdaiphfeaa.Pure
