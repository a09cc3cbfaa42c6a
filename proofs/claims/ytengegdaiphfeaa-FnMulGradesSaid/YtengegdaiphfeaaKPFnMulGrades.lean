/- Proved: a product of matrices of grades is the same whichever two are multiplied first, and the unit changes nothing, at every two draws. No condition. -/
import Derived.Test.YtengegdaiphfeaaKFnMulGrades1
import Derived.Test.YtengegdaiphfeaaKFnMulGrades3
import Derived.Test.YtengegdaiphfeaaKFnMulGrades5
import Derived.Test.YtengegdaiphfeaaKFnMulGrades2
import Derived.Test.YtengegdaiphfeaaKFnMulGrades6
namespace Go.Proofs.Ytengegdaiphfeaa.Pure
open Go.RowKit Go.Proofs.Ytengegdaiphfeaa.X Go.Proofs.Ytengegdaiphfeaa.Y Go.Proofs.YtengegdaiphfeaaW.PrintWords Go.Proofs.YtengegdaiphfeaaW.PrintLast Go.Proofs.YtengegdaiphfeaaW.PrintMore
set_option linter.unusedVariables false
set_option linter.unusedSimpArgs false
theorem drawMul_ev (l : List Int) (hb : Bytes l) : ∃ (n : Int) (a : List Int) (m : Int) (b : List Int), a.length ≤ 16 ∧ b.length ≤ 16 ∧ Ev (fun k => spec_DrawMulGrades.f k l) (n, a, m, b) := by
  obtain ⟨l', e, h1, h2⟩ := open_eq l
  have hb' := h2 hb
  obtain ⟨v, hv, h⟩ := pick_ev l' h1 hb' 0 4 (by omega) (by omega) (by omega)
  have e1 : wrap64 (1 + (v : Int)) = ((v + 1 : Nat) : Int) := by rw [w64 (x := 1 + (v : Int)) (by omega) (by omega)]; omega
  have hq := sq_le (v + 1) (by omega)
  have hq1 : 1 ≤ (v + 1) * (v + 1) := Nat.mul_pos (by omega) (by omega)
  obtain ⟨t, ht1, _, ht3⟩ := drawG_ev l' h1 hb' (v + 1) (by omega) (by omega) (0 + 1) (by omega)
  obtain ⟨n', c', s', g1, _, g3, g4⟩ := bad_ev l' h1 hb' (0 + 1 + (v + 1) * (v + 1)) (by omega) ((v + 1 : Nat) : Int) t (by omega) (by omega)
  obtain ⟨u, hu, hp⟩ := pick_ev l' h1 hb' s' 16 (by omega) (by omega) (by omega)
  by_cases hz : u = 0
  · obtain ⟨y, hy, hpy⟩ := pick_ev l' h1 hb' (s' + 1) 4 (by omega) (by omega) (by omega)
    have e2 : wrap64 (1 + (y : Int)) = ((y + 1 : Nat) : Int) := by rw [w64 (x := 1 + (y : Int)) (by omega) (by omega)]; omega
    have hq2 := sq_le (y + 1) (by omega)
    obtain ⟨z, hz1, _, hz3⟩ := drawG_ev l' h1 hb' (y + 1) (by omega) (by omega) (s' + 1 + 1) (by omega)
    refine ⟨n', c', ((y + 1 : Nat) : Int), z, g1, by omega, ?_⟩
    unfold spec_DrawMulGrades.f
    refine Ev_eq e (Ev.bind h ?_)
    show Ev (fun k => (spec_l6Draw.f k l' ((0 + 1 : Nat) : Int) (wrap64 (1 + (v : Int)))).bind _) _
    rw [e1]
    refine Ev.bind ht3 (Ev.bind g4 (Ev.bind hp (Ev_t (by show (u : Int) = 0; omega) (Ev.bind hpy ?_))))
    show Ev (fun k => (spec_l6Draw.f k l' ((s' + 1 + 1 : Nat) : Int) (wrap64 (1 + (y : Int)))).bind _) _
    rw [e2]
    exact Ev.bind hz3 (Ev.now _)
  · obtain ⟨z, hz1, _, hz3⟩ := drawG_ev l' h1 hb' (v + 1) (by omega) (by omega) (s' + 1) (by omega)
    refine ⟨n', c', ((v + 1 : Nat) : Int), z, g1, by omega, ?_⟩
    unfold spec_DrawMulGrades.f
    refine Ev_eq e (Ev.bind h ?_)
    show Ev (fun k => (spec_l6Draw.f k l' ((0 + 1 : Nat) : Int) (wrap64 (1 + (v : Int)))).bind _) _
    rw [e1]
    refine Ev.bind ht3 (Ev.bind g4 (Ev.bind hp (Ev_f (by show ¬ (u : Int) = 0; omega) ?_)))
    exact Ev.bind hz3 (Ev.now _)
theorem drawIsIdem_ev (l : List Int) (hb : Bytes l) : ∃ (n : Int) (c : List Int), c.length ≤ 16 ∧ Ev (fun k => spec_DrawIsIdempotent.f k l) (n, c) := by
  obtain ⟨l', e, h1, h2⟩ := open_eq l
  obtain ⟨n, c, s, g1, _, g2⟩ := idem_ev l' h1 (h2 hb) 0 (by omega)
  refine ⟨n, c, g1, ?_⟩
  unfold spec_DrawIsIdempotent.f
  exact Ev_eq e (Ev.bind g2 (Ev.now _))
def unitE (i k : Nat) : Int := if i = k then 0 else 1000000
def oneE (i k : Nat) : Int := if i = k then 0 else 3
theorem iUnit (n : Nat) (h1 : 1 ≤ n) (h4 : n ≤ 4) : Ev (fun k => impl_UnitMatrix.f k (n : Int)) ((n : Int), sqL n unitE, true) := by
  unfold impl_UnitMatrix.f
  refine Ev_f (by omega) (Ev_f (by omega) ?_)
  refine Ev.bind (a := ((n : Int), sqL n unitE)) ?_ (Ev.now _)
  refine filled_ev n h4 unitE (fun _ y0 y1 => impl_UnitMatrix_1.f y0 y1) (fun i hi k hk => ?_)
  refine Ev.congr (f := fun _ => some (unitE i k)) (fun _ => ?_) (Ev.now _)
  unfold impl_UnitMatrix_1.f unitE
  by_cases e : i = k
  · subst e; rw [if_pos rfl, if_pos rfl]
  · rw [if_neg (by omega), if_neg e]
theorem unit_MV (n : Nat) (h1 : 1 ≤ n) (h4 : n ≤ 4) : MV (n : Int) (sqL n unitE) := by
  refine ⟨by omega, by omega, ?_, ?_⟩
  · unfold sqL; rw [tab_length]; exact_mod_cast rfl
  · intro x hx
    unfold sqL tab at hx
    obtain ⟨m, _, rfl⟩ := List.mem_map.mp hx
    unfold unitE
    by_cases e : m / n = m % n
    · simp only [e, if_true]; omega
    · rw [if_neg e]; omega
theorem unit_gr (n : Nat) : (sqL n unitE).map gr = sqL n oneE := by
  unfold sqL tab
  rw [List.map_map]
  refine List.map_congr_left (fun m _ => ?_)
  show gr (unitE (m / n) (m % n)) = oneE (m / n) (m % n)
  unfold unitE oneE gr
  by_cases e : m / n = m % n
  · rw [if_pos e, if_pos e]; rfl
  · rw [if_neg e, if_neg e]; rfl
theorem one_GV (n : Nat) (h1 : 1 ≤ n) (h4 : n ≤ 4) : GV (n : Int) (sqL n oneE) := by
  refine ⟨⟨by omega, by omega, ?_, ?_⟩, ?_⟩
  · unfold sqL; rw [tab_length]; exact_mod_cast rfl
  · intro x hx
    unfold sqL tab at hx
    obtain ⟨m, _, rfl⟩ := List.mem_map.mp hx
    unfold oneE
    by_cases e : m / n = m % n
    · simp only [e, if_true]; omega
    · rw [if_neg e]; omega
  · intro x hx
    unfold sqL tab at hx
    obtain ⟨m, _, rfl⟩ := List.mem_map.mp hx
    unfold oneE
    by_cases e : m / n = m % n
    · simp only [e, if_true]; omega
    · rw [if_neg e]; omega
theorem mul_one' (n : Nat) (a : List Int) (h : GV (n : Int) a) : mulL n a (sqL n oneE) = a := by
  have hg : Gr a := fun x hx => ⟨(h.1.2.2.2 x hx).1, h.2 x hx⟩
  conv => rhs; rw [eq_sqL n a (GV_len h)]
  unfold mulL
  refine sqL_congr n _ _ (fun i k hi hk => ?_)
  refine eq_of_le _ _ (fun t => ?_)
  rw [mulE_le]
  have hb := gr_getD hg (i * n + k)
  constructor
  · rintro (h3 | ⟨l, hl, h1, h2⟩)
    · omega
    · rw [sqL_get n oneE l k hl hk] at h2
      unfold oneE at h2
      by_cases e : l = k
      · subst e; exact h1
      · rw [if_neg e] at h2; omega
  · intro ht
    refine Or.inr ⟨k, hk, ht, ?_⟩
    rw [sqL_get n oneE k k hk hk]
    unfold oneE
    rw [if_pos rfl]; omega
theorem FnMulGrades_end (n : Nat) (a b c : List Int) (ha : GV (n : Int) a) (hb : GV (n : Int) b) (hc : GV (n : Int) c) : Ev (fun k => laws_FnMulGrades.j5 k n a n b n (mulL n a b) n c) true := by
  have hn := GV_le ha
  have hab := GV_mul n a b ha hb
  have hbc := GV_mul n b c hb hc
  have ho := one_GV n hn.2 hn.1
  refine Ev.step (fun k => by simp only [laws_FnMulGrades.j5] <;> exact rfl) ?_
  refine Ev.bind (iMul n _ c hab hc) ?_
  refine Ev.bind (iMul n b c hb hc) ?_
  refine Ev.bind (iMul n a _ ha hbc) ?_
  refine Ev.bind (iUnit n hn.2 hn.1) ?_
  have hm := unit_MV n hn.2 hn.1
  have hu : (sqL n unitE).length ≤ 16 := by unfold sqL; rw [tab_length]; exact sq_le n hn.1
  have hgo : Ev (fun k => impl_GradesOf.f k (n : Int) (sqL n unitE)) ((n : Int), sqL n oneE, true) := by
    refine (iGrades (n : Int) (sqL n unitE) (by rw [maxLen_eq]; omega)).is ?_
    unfold gradesR; rw [if_pos hm, unit_gr]
  refine Ev.bind hgo ?_
  refine Ev.bind (iMul n a _ ha ho) ?_
  have h16 := len_of_GV hab
  have h16a := len_of_GV ha
  have h16c := len_of_GV (GV_mul n a _ ha hbc)
  refine Ev.bind (iGV n _ (by rw [maxLen_eq]; omega)) (Ev_t (decide_eq_true hab) ?_)
  have hxy : Ev (fun k => laws_daMatrix.f k (n : Int) (mulL n (mulL n a b) c) (n : Int) (mulL n a (mulL n b c))) true := by
    rw [mul_assoc']
    exact daMatrix_ev n _ (by omega)
  refine Ev.bind hxy (Ev_t rfl ?_)
  have hua : Ev (fun k => laws_daMatrix.f k (n : Int) (mulL n a (sqL n oneE)) (n : Int) a) true := by
    rw [mul_one' n a ha]
    exact daMatrix_ev n _ (by omega)
  exact Ev.bind hua (Ev.now _)
theorem FnMulGrades : laws_FnMulGrades.Pure := by
  intro l0 l1 hl0 _ hw0 hl1 _ hw1
  refine Ev.rounds (g := fun k => laws_FnMulGrades.f k l0 l1) (r := true) ?_
  have big : Ev (fun k => laws_FnMulGrades.j0 k l0 l1 true) true := by
    refine Ev.step (fun k => by simp only [laws_FnMulGrades.j0] <;> exact rfl) ?_
    exact Ev_t (by trivial) (Ev.now _)
  unfold laws_FnMulGrades.f
  by_cases hz : (l0.length : Int) > 1048576
  · exact Ev_t hz big
  refine Ev_f hz ?_
  by_cases hz1 : (l1.length : Int) > 1048576
  · rw [decide_eq_true hz1]; exact big
  rw [decide_eq_false hz1]
  refine Ev.step (fun k => by simp only [laws_FnMulGrades.j0] <;> exact rfl) ?_
  refine Ev_f (by simp) ?_
  obtain ⟨n, a, m, b, h16a, h16b, hd⟩ := drawMul_ev l0 (bytes_of hw0)
  refine Ev.step (fun k => by simp only [laws_FnMulGrades.j1] <;> exact rfl) ?_
  refine Ev.bind hd ?_
  have hs := sMul_any n a m b (by rw [maxLen_eq]; omega) (by rw [maxLen_eq]; omega)
  have hi := iMul_any n a m b (by rw [maxLen_eq]; omega) (by rw [maxLen_eq]; omega)
  by_cases g : GV n a ∧ GV m b ∧ n = m
  · obtain ⟨ga, gb, rfl⟩ := g
    obtain ⟨n, rfl⟩ := GV_nat ga
    have hr : mulR n a n b = ((n : Int), mulL n a b, true) := by unfold mulR; rw [if_pos ⟨ga, gb, rfl⟩]; rfl
    rw [hr] at hs hi
    have h16 := len_of_GV (GV_mul n a b ga gb)
    refine Ev.bind hi (Ev.bind hs (Ev.bind (daMatrix_ev n (mulL n a b) (by omega)) (Ev_t rfl (Ev_f (by simp) ?_))))
    refine Ev.step (fun k => by simp only [laws_FnMulGrades.j2] <;> exact rfl) ?_
    refine Ev_f (by simp) ?_
    refine Ev.step (fun k => by simp only [laws_FnMulGrades.j3] <;> exact rfl) ?_
    obtain ⟨cn, c, h16c, hdc⟩ := drawIsIdem_ev l1 (bytes_of hw1)
    refine Ev.bind hdc (Ev.bind (iGV cn c (by rw [maxLen_eq]; omega)) ?_)
    have same : Ev (fun k => laws_FnMulGrades.j4 k true n a n b n (mulL n a b) cn c) true := by
      refine Ev.step (fun k => by simp only [laws_FnMulGrades.j4] <;> exact rfl) ?_
      exact Ev_t (by trivial) (FnMulGrades_end n a b b ga gb gb)
    by_cases gc : GV cn c
    · refine Ev_t (decide_eq_true gc) ?_
      by_cases en : cn = (n : Int)
      · subst en
        have e0 : ((n : Int) != (n : Int)) = false := by simp
        show Ev (fun k => laws_FnMulGrades.j4 k ((n : Int) != (n : Int)) n a n b n (mulL n a b) n c) true
        rw [e0]
        refine Ev.step (fun k => by simp only [laws_FnMulGrades.j4] <;> exact rfl) ?_
        exact Ev_f (by simp) (FnMulGrades_end n a b c ga gb gc)
      · have e0 : (cn != (n : Int)) = true := bne_iff_ne.mpr en
        show Ev (fun k => laws_FnMulGrades.j4 k (cn != (n : Int)) n a n b n (mulL n a b) cn c) true
        rw [e0]; exact same
    · exact Ev_f (by rw [decide_eq_false gc]; simp) same
  · have hr : mulR n a m b = (0, [], false) := by unfold mulR; rw [if_neg g]
    rw [hr] at hs hi
    refine Ev.bind hi (Ev.bind hs (Ev.bind (daMatrix_ev 0 [] (by simp)) (Ev_t rfl (Ev_f (by simp) ?_))))
    refine Ev.step (fun k => by simp only [laws_FnMulGrades.j2] <;> exact rfl) ?_
    refine Ev_t (by trivial) ?_
    refine Ev.bind (daMatrix_ev 0 [] (by simp)) ?_
    exact Ev_t rfl ((Ev.now _).is (by simp))

end Go.Proofs.Ytengegdaiphfeaa.Pure
