/- Proved: the expansion of two expressions is both expansions, that of a repeated one stands as many times and is one deeper, at every two draws. No condition. -/
import Derived.Test.YtengegdaiphfeaaKFnExpand1
import Derived.Test.YtengegdaiphfeaaKFnExpand2
import Derived.Test.YtengegdaiphfeaaKFnExpand3
import Derived.Test.YtengegdaiphfeaaKFnExpand5
namespace Go.Proofs.Ytengegdaiphfeaa.Pure
open Go.RowKit Go.Proofs.Ytengegdaiphfeaa.X Go.Proofs.Ytengegdaiphfeaa.Y Go.Proofs.YtengegdaiphfeaaW.PrintWords Go.Proofs.YtengegdaiphfeaaW.PrintLast Go.Proofs.YtengegdaiphfeaaW.PrintMore
set_option linter.unusedVariables false
set_option linter.unusedSimpArgs false
theorem both_valid (s : ByteArray) : ∃ b : Bool, Ev (fun k => impl_ExpressionValid.f k s) b ∧ Ev (fun k => spec_ExpressionValid.f k s) b := by
  rcases good_or s with ⟨ps, g⟩ | ⟨hv, ps, hp⟩
  · exact ⟨true, good_ivalid g, good_valid g⟩
  · refine ⟨false, ?_, hv⟩
    unfold impl_ExpressionValid.f
    exact Ev.bind hp (Ev.now _)
theorem both_depth (s : ByteArray) : ∃ d : Int, Ev (fun k => impl_DepthOf.f k s) d ∧ Ev (fun k => spec_DepthOf.f k s) d := by
  rcases good_or s with ⟨ps, g⟩ | g
  · obtain ⟨d, _, _, h1, h2⟩ := good_depth g
    exact ⟨d, h2, h1⟩
  · obtain ⟨h1, h2⟩ := bad_depth g
    exact ⟨-1, h2, h1⟩
theorem B_nil_list : ((B []).toList == ([] : List UInt8)) = true := by rw [toList_L]; unfold B; rw [L_mk]; rfl
theorem off_end (l1 : List Int) (e : ByteArray) (n : Int) (hS : Ev (fun k => spec_ExpandExpression.f k e n) (B [], false)) (hI : Ev (fun k => impl_ExpandExpression.f k e n) (B [], false)) : Ev (fun k => laws_FnExpand.j2 k l1 e n) true := by
  obtain ⟨b, bi, bs⟩ := both_valid e
  obtain ⟨d, di, ds⟩ := both_depth e
  refine Ev.step (fun k => by simp only [laws_FnExpand.j2] <;> exact rfl) ?_
  refine Ev.bind hI ?_
  refine Ev.step (fun k => by simp only [laws_FnExpand.j3] <;> exact rfl) ?_
  refine Ev.bind hS ?_
  refine Ev.step (fun k => by simp only [laws_FnExpand.j4] <;> exact rfl) ?_
  refine Ev_t (by first | rfl | trivial) (Ev_f (by simp) ?_)
  refine Ev.bind bi (Ev.bind bs (Ev_f (by simp) ?_))
  refine Ev.bind di (Ev.bind ds (Ev_t (by first | rfl | trivial) ?_))
  refine Ev.step (fun k => by simp only [laws_FnExpand.j5] <;> exact rfl) ?_
  refine Ev_t (by first | rfl | trivial) (Ev_t (by first | rfl | trivial) (Ev_t (by first | rfl | trivial | simp) ?_))
  refine Ev.bind bi (Ev.bind bs (Ev_t (by simp) ?_))
  refine Ev.bind di (Ev.bind ds (Ev_t (by first | rfl | trivial) ?_))
  exact (Ev.now _).is B_nil_list
theorem depth_end (e w : ByteArray) (d : Nat) (hd : Ev (fun k => impl_DepthOf.f k e) (d : Int)) (h0 : d = 0 → w = e) : Ev (fun k => (impl_DepthOf.f k e).bind fun t => if t > 0 then some true else some (w.toList == e.toList)) true := by
  refine Ev.bind hd ?_
  by_cases h : d = 0
  · refine Ev_f (by omega) ((Ev.now _).is ?_)
    rw [h0 h]; simp
  · exact Ev_t (by omega) (Ev.now _)
theorem tail_ev (e f w v both : ByteArray) (X : List UInt8) (fine good : Bool) (d : Nat) (hd : Ev (fun k => impl_DepthOf.f k e) (d : Int)) (hw : w = B X) (hX1 : 1 ≤ X.length) (hX : X.length ≤ 1000) (hok : X.all wOk = true)
    (he : e.size ≤ 1000) (hf : f.size ≤ 1000) (h0 : d = 0 → w = e) (hv : fine = true → v.size ≤ 1000)
    (hcond : fine = true → e.size + f.size ≤ 120 → X.length + v.size ≤ 1000 → good = true ∧ both = w ++ v) : Ev (fun k => laws_FnExpand.j15 k e w f v fine both good false) true := by
  have hws : w.size = X.length := by rw [hw, B_size]
  have hwl : L w = X := by rw [hw]; unfold B; rw [L_mk]
  have hwb : wordB (L w) = true := by rw [hwl]; unfold wordB; rw [hok, decide_eq_true hX]; rfl
  have D := depth_end e w d hd h0
  refine Ev.step (fun k => by simp only [laws_FnExpand.j15] <;> exact rfl) ?_
  refine Ev_f (by simp) ?_
  refine Ev.bind ((iWord_ev w (by omega)).is hwb) (Ev_t (by first | rfl | trivial) ?_)
  refine Ev_f (by rw [toList_L, hwl]; intro h; rw [h] at hX1; simp at hX1) ?_
  cases fine with
  | false => exact Ev_f (by simp) D
  | true =>
    have hv' := hv rfl
    refine Ev_t (by first | rfl | trivial) ?_
    by_cases h1 : e.size + f.size ≤ 120
    · refine Ev_f (by rw [wr_sum _ _ (by omega)]; omega) ?_
      by_cases h2 : X.length + v.size ≤ 1000
      · refine Ev_f (by rw [wr_sum _ _ (by omega)]; omega) ?_
        obtain ⟨hg, hb⟩ := hcond rfl h1 h2
        refine Ev_t hg (Ev_t (by omega) (Ev_t (by rw [hb]) ?_))
        exact D
      · exact Ev_t (by rw [wr_sum _ _ (by omega)]; omega) D
    · exact Ev_t (by rw [wr_sum _ _ (by omega)]; omega) D
theorem j11_off (k : Nat) (x5 : ByteArray) (x6 : Int) (x7 x11 x12 : ByteArray) (x13 : Bool) (x14 : ByteArray) (x15 : Bool) (x16 : ByteArray) : laws_FnExpand.j11 (k + 1) x5 x6 x7 x11 x12 x13 x14 x15 x16 false = laws_FnExpand.j15 (k + 1) x5 x7 x11 x12 x13 x14 x15 false := by
  simp only [laws_FnExpand.j11, laws_FnExpand.j15]
  rw [if_neg (show ¬ (false = true) by simp), if_neg (show ¬ (false = true) by simp)]
theorem j11_ev {x5 : ByteArray} {x6 : Int} {x7 x11 x12 : ByteArray} {x13 : Bool} {x14 : ByteArray} {x15 : Bool} {x16 : ByteArray} (h : Ev (fun k => laws_FnExpand.j15 k x5 x7 x11 x12 x13 x14 x15 false) true) : Ev (fun k => laws_FnExpand.j11 k x5 x6 x7 x11 x12 x13 x14 x15 x16 false) true := by
  obtain ⟨K, hK⟩ := h
  refine ⟨K + 1, fun k hk => ?_⟩
  obtain ⟨j, rfl⟩ : ∃ j, k = j + 1 := ⟨k - 1, by omega⟩
  show laws_FnExpand.j11 (j + 1) x5 x6 x7 x11 x12 x13 x14 x15 x16 false = some true
  rw [j11_off]
  exact hK (j + 1) (by omega)
theorem again_eq (e : ByteArray) : ((⟨#[40]⟩ : ByteArray) ++ e) ++ (⟨#[41, 35]⟩ : ByteArray) = B (40 :: (L e ++ [41, 35])) := by
  apply L_inj
  rw [L_append, L_append]
  unfold B
  rw [L_mk]
  rfl
theorem good_end (l1 : List Int) (e f : ByteArray) (ps : List S86) (hg : GoodE e ps) (t : Nat) (h1 : 1 ≤ t) (ht : (t : Int) ≤ 9223372036854775807) (X : List UInt8) (xp : XP t ps X) (hX1 : 1 ≤ X.length) (hX : X.length ≤ 1000) (hf : f.size ≤ 1000) (hd : Ev (fun k => spec_DrawDepthOf.f k l1) f)
    (hS : Ev (fun k => spec_ExpandExpression.f k e (t : Int)) (B X, true)) (hI : Ev (fun k => impl_ExpandExpression.f k e (t : Int)) (B X, true)) : Ev (fun k => laws_FnExpand.j2 k l1 e (t : Int)) true := by
  have hes := hg.small
  obtain ⟨d, dp, dle, ds, di⟩ := good_depth hg
  have bi := good_ivalid hg
  have bs := good_valid hg
  have hzero : d = 0 → B X = e := fun h => by rw [dp_zero hg.reads rfl dp h xp, B_L]
  refine Ev.step (fun k => by simp only [laws_FnExpand.j2] <;> exact rfl) ?_
  refine Ev.bind hI ?_
  refine Ev.step (fun k => by simp only [laws_FnExpand.j3] <;> exact rfl) ?_
  refine Ev.bind hS ?_
  refine Ev.step (fun k => by simp only [laws_FnExpand.j4] <;> exact rfl) ?_
  refine Ev_t (by first | rfl | trivial) (Ev_f (by simp) ?_)
  refine Ev.bind bi (Ev.bind bs (Ev_f (by simp) ?_))
  refine Ev.bind di (Ev.bind ds (Ev_t (by first | rfl | trivial) ?_))
  refine Ev.step (fun k => by simp only [laws_FnExpand.j5] <;> exact rfl) ?_
  refine Ev_f (by simp) ?_
  refine Ev.step (fun k => by simp only [laws_FnExpand.j6] <;> exact rfl) ?_
  refine Ev.bind hd ?_
  refine Ev.step (fun k => by simp only [laws_FnExpand.j7] <;> exact rfl) ?_
  obtain ⟨⟨v, fine⟩, hfv, hvs, hvg⟩ : ∃ fv : ByteArray × Bool, Ev (fun k => impl_ExpandExpression.f k f (t : Int)) fv ∧ (fv.2 = true → fv.1.size ≤ 1000) ∧ (fv.2 = true → ∃ qs Y, GoodE f qs ∧ XP t qs Y ∧ fv.1 = B Y) := by
    rcases good_or f with ⟨qs, gf⟩ | gf
    · obtain ⟨Y, yp, _, _, y2⟩ := good_expand gf t h1 ht
      refine ⟨exR [] Y, y2, ?_, ?_⟩
      · unfold exR
        by_cases q : ([] : List UInt8).length + Y.length ≤ 1000
        · rw [if_pos q]; intro _; show (B ([] ++ Y)).size ≤ 1000; rw [B_size]; simpa using q
        · rw [if_neg q]; intro h; cases h
      · unfold exR
        by_cases q : ([] : List UInt8).length + Y.length ≤ 1000
        · rw [if_pos q]; intro _; exact ⟨qs, Y, gf, yp, rfl⟩
        · rw [if_neg q]; intro h; cases h
    · exact ⟨(B [], false), (expand_off f (t : Int) (Or.inr gf)).2, (fun h => by cases h), (fun h => by cases h)⟩
  have hvs : fine = true → v.size ≤ 1000 := hvs
  have hvg : fine = true → ∃ qs Y, GoodE f qs ∧ XP t qs Y ∧ v = B Y := hvg
  refine Ev.bind hfv ?_
  refine Ev.step (fun k => by simp only [laws_FnExpand.j8] <;> exact rfl) ?_
  refine Ev_t (by omega) ?_
  obtain ⟨⟨both, good⟩, hbo, hcond⟩ : ∃ gv : ByteArray × Bool, Ev (fun k => impl_ExpandExpression.f k (e ++ f) (t : Int)) gv ∧ (fine = true → e.size + f.size ≤ 120 → X.length + v.size ≤ 1000 → gv.2 = true ∧ gv.1 = B X ++ v) := by
    by_cases q : fine = true ∧ e.size + f.size ≤ 120
    · obtain ⟨qs, Y, gf, yp, rfl⟩ := hvg q.1
      obtain ⟨Z, zp, _, _, z2⟩ := good_expand (good_app hg gf q.2) t h1 ht
      have hZ : Z = X ++ Y := zp.fn (xp.app yp)
      subst hZ
      refine ⟨exR [] (X ++ Y), z2, fun _ _ h3 => ?_⟩
      rw [B_size] at h3
      unfold exR
      rw [if_pos (by simp; omega), B_add]
      exact ⟨rfl, rfl⟩
    · obtain ⟨gv, _, g2⟩ := expand_both (e ++ f) (t : Int) ht
      exact ⟨gv, g2, fun a b _ => absurd ⟨a, b⟩ q⟩
  have hcond : fine = true → e.size + f.size ≤ 120 → X.length + v.size ≤ 1000 → good = true ∧ both = B X ++ v := hcond
  refine Ev.bind hbo ?_
  have T := tail_ev e f (B X) v both X fine good d di rfl hX1 hX (xp_ok hg.reads xp) (by omega) hf hzero hvs hcond
  refine Ev.step (fun k => by simp only [laws_FnExpand.j9] <;> exact rfl) ?_
  by_cases h3 : e.size + 3 ≤ 120
  · have hr : Ev (fun k => impl_RepeatExpression.f k e) (B (40 :: (L e ++ [41, 35]))) := by
      unfold impl_RepeatExpression.f
      refine Ev_t (by omega) (Ev_t (by omega) (Ev.bind bi (Ev_t (by first | rfl | trivial) (Ev_f (by omega) ?_))))
      exact (Ev.now _).is (again_eq e)
    refine Ev.bind hr ?_
    have ga := good_again hg h3
    refine Ev.step (fun k => by simp only [laws_FnExpand.j10] <;> exact rfl) ?_
    refine Ev_f (by rw [toList_L]; unfold B; rw [L_mk]; simp) ?_
    by_cases h6 : (t : Int) < 6
    · refine Ev_t h6 ?_
      by_cases h100 : X.length < 100
      · have e1 : decide (((B X).size : Int) < 100) = true := decide_eq_true (by rw [B_size]; omega)
        show Ev (fun k => laws_FnExpand.j11 k e (t : Int) (B X) f v fine both good (B (40 :: (L e ++ [41, 35]))) (decide (((B X).size : Int) < 100))) true
        rw [e1]
        refine Ev.step (fun k => by simp only [laws_FnExpand.j11] <;> exact rfl) ?_
        refine Ev_t (by first | rfl | trivial) ?_
        have hrl : ∀ i, i ≤ t → (Lib.repeatL X i).length ≤ 600 := fun i hi => by
          rw [Lib.repeatL_length]
          exact Nat.le_trans (Nat.mul_le_mul (show i ≤ 6 by omega) (show X.length ≤ 100 by omega)) (by decide)
        show Ev (fun k => laws_FnExpand.l0 k e (t : Int) (B X) f v fine both good (B (40 :: (L e ++ [41, 35]))) (B (Lib.repeatL X 0)) (t : Int) ((0 : Nat) : Int)) true
        refine up_loop t (fun i k => laws_FnExpand.l0 k e (t : Int) (B X) f v fine both good (B (40 :: (L e ++ [41, 35]))) (B (Lib.repeatL X i)) (t : Int) (i : Int)) true (fun i hit hs => ?_) ?_
        · have hi6 := hrl i (by omega)
          have er : B (Lib.repeatL X i) ++ B X = B (Lib.repeatL X (i + 1)) := by rw [B_add, Lib.repeatL_add, Lib.repeatL_one]
          refine Ev.step (f := ?f1) (fun k => ?h1) ?k1
          case h1 => simp only [laws_FnExpand.l0]; rw [if_pos (show (i : Int) < (t : Int) by omega), if_pos (show (B (Lib.repeatL X i)).size + (B X).size ≤ 9223372036854775807 by rw [B_size, B_size]; omega), er, wr_up i (by omega)] <;> exact rfl
          exact hs
        · refine Ev.step (f := ?f2) (fun k => ?h2) ?k2
          case h2 => simp only [laws_FnExpand.l0]; rw [if_neg (show ¬ (t : Int) < (t : Int) by omega)] <;> exact rfl
          refine Ev.step (fun k => by simp only [laws_FnExpand.j13] <;> exact rfl) ?_
          obtain ⟨Z, zp, _, _, z2⟩ := good_expand ga t h1 ht
          have hZ : Z = Lib.repeatL X t := by
            have := zp.fn (XP.again t ps [] X [] xp XP.nil)
            rw [this, List.append_nil]
          subst hZ
          have ht6 := hrl t (Nat.le_refl _)
          have ez : exR [] (Lib.repeatL X t) = (B (Lib.repeatL X t), true) := by unfold exR; rw [if_pos (by simp; omega)]; rfl
          rw [ez] at z2
          refine Ev.bind z2 ?_
          refine Ev.step (fun k => by simp only [laws_FnExpand.j14] <;> exact rfl) ?_
          obtain ⟨d2, dp2, _, _, di2⟩ := good_depth ga
          have hd2 : d2 = d + 1 := by
            have := dp2.fn (DP.again ps [] d 0 dp DP.nil)
            omega
          subst hd2
          refine Ev_t (by first | rfl | trivial) (Ev_t (by first | rfl | trivial) (Ev.bind di2 (Ev.bind di ?_)))
          have eb : ((((d + 1 : Nat) : Int)) != (wrap64 ((d : Int) + 1))) = false := by rw [wr_up d (by omega)]; simp
          show Ev (fun k => laws_FnExpand.j15 k e (B X) f v fine both good ((((d + 1 : Nat) : Int)) != (wrap64 ((d : Int) + 1)))) true
          rw [eb]
          exact T
      · have e1 : decide (((B X).size : Int) < 100) = false := decide_eq_false (by rw [B_size]; omega)
        show Ev (fun k => laws_FnExpand.j11 k e (t : Int) (B X) f v fine both good (B (40 :: (L e ++ [41, 35]))) (decide (((B X).size : Int) < 100))) true
        rw [e1]
        exact j11_ev T
    · exact Ev_f h6 (j11_ev T)
  · have hr : Ev (fun k => impl_RepeatExpression.f k e) (⟨#[]⟩ : ByteArray) := by
      unfold impl_RepeatExpression.f
      refine Ev_t (by omega) (Ev_t (by omega) (Ev.bind bi (Ev_t (by first | rfl | trivial) (Ev_t (by omega) ?_))))
      exact Ev.now _
    refine Ev.bind hr ?_
    refine Ev.step (fun k => by simp only [laws_FnExpand.j10] <;> exact rfl) ?_
    exact Ev_t (by rw [toList_L]; rfl) (j11_ev T)
theorem FnExpand : laws_FnExpand.Pure := by
  intro l0 l1 hl0 _ hw0 hl1 _ hw1
  refine Ev.rounds (g := fun k => laws_FnExpand.f k l0 l1) (r := true) ?_
  have big : Ev (fun k => laws_FnExpand.j0 k l0 l1 true) true := by
    refine Ev.step (fun k => by simp only [laws_FnExpand.j0] <;> exact rfl) ?_
    exact Ev_t (by trivial) (Ev.now _)
  unfold laws_FnExpand.f
  by_cases hz : (l0.length : Int) > 1048576
  · exact Ev_t hz big
  refine Ev_f hz ?_
  by_cases hz1 : (l1.length : Int) > 1048576
  · rw [decide_eq_true hz1]; exact big
  rw [decide_eq_false hz1]
  refine Ev.step (fun k => by simp only [laws_FnExpand.j0] <;> exact rfl) ?_
  refine Ev_f (by simp) ?_
  obtain ⟨e, n, he, hn, hd⟩ := drawExpand_ev l0 (bytes_of hw0)
  refine Ev.step (fun k => by simp only [laws_FnExpand.j1] <;> exact rfl) ?_
  refine Ev.bind hd ?_
  show Ev (fun k => laws_FnExpand.j2 k l1 e n) true
  by_cases h1 : n < 1
  · obtain ⟨a, b⟩ := expand_off e n (Or.inl h1)
    exact off_end l1 e n a b
  rcases good_or e with ⟨ps, g⟩ | g
  · obtain ⟨t, rfl⟩ : ∃ t : Nat, n = (t : Int) := ⟨n.toNat, by omega⟩
    obtain ⟨X, xp, hX1, a, b⟩ := good_expand g t (by omega) hn
    by_cases hX : X.length ≤ 1000
    · have ex : exR [] X = (B X, true) := by unfold exR; rw [if_pos (by simpa using hX)]; rfl
      rw [ex] at a b
      obtain ⟨f, hf, hdf⟩ := drawDepthOf_ev l1 (bytes_of hw1)
      exact good_end l1 e f ps g t (by omega) hn X xp hX1 hX hf hdf a b
    · have ex : exR [] X = (B [], false) := by unfold exR; rw [if_neg (by simpa using hX)]
      rw [ex] at a b
      exact off_end l1 e (t : Int) a b
  · obtain ⟨a, b⟩ := expand_off e n (Or.inr g)
    exact off_end l1 e n a b

end Go.Proofs.Ytengegdaiphfeaa.Pure
