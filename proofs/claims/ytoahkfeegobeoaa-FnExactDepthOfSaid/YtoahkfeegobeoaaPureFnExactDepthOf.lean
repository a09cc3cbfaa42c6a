/- Proved: the program's DepthOf returns what the reference's returns, for every text. No condition. -/
import Derived.Test.YtoahkfeegobeoaaXImplDepth
import Derived.Test.YtoahkfeegobeoaaXImplDepthOf
import Derived.Test.YtoahkfeegobeoaaXLawsFnExactDepthOf
import Derived.Test.YtoahkfeegobeoaaXSpecDepthOf
import Derived.Test.YtoahkfeegobeoaaXT
import Derived.Test.YtoahkfeegobeoaaXW
import Derived.Test.YtoahkfeegobeoaaYBytes
import Derived.Test.YtoahkfeegobeoaaYExpr
import Derived.Test.YtoahkfeegobeoaaYParts
namespace Go.Proofs.Ytoahkfeegobeoaa.Pure
open Go.RowKit Go.Proofs.Ytoahkfeegobeoaa.X Go.Proofs.Ytoahkfeegobeoaa.Y Go.Proofs.YtoahkfeegobeoaaW.PrintWords Go.Proofs.YtoahkfeegobeoaaW.PrintLast Go.Proofs.YtoahkfeegobeoaaW.PrintMore
set_option linter.unusedVariables false
set_option linter.unusedSimpArgs false
theorem mx_nat (a b : Nat) : mx (a : Int) (b : Int) = ((max a b : Nat) : Int) := by unfold mx; omega
theorem rd_at (pre : List S49) (p : S49) (ps : List S49) : rd_T49 (pre ++ p :: ps) (pre.length : Int) = p := by
  simp [rd_T49, List.getD_eq_getElem?_getD]
theorem rdepth_step (s : ByteArray) (u e : List UInt8) (c : UInt8) (dp m : Int) (hs : L s = u ++ c :: e) (hn : s.size ≤ 1000000) (h0 : 0 ≤ dp) (h1 : dp ≤ 1000000) (dp' m' : Int)
    (hc : dp' = (if c = 40 then dp + 1 else if c = 41 then dp - 1 else dp)) (hm : m' = (if c = 40 then mx m (dp + 1) else m)) {res : Int}
    (h : Ev (fun k => spec_DepthOf.l0 k s dp' m' s.size ((u ++ [c]).length)) res) : Ev (fun k => spec_DepthOf.l0 k s dp m s.size u.length) res := by
  have hz := size_suffix hs
  have hbt := bt_suffix hs
  simp at hz
  refine Ev.step (fun k => ?_) h
  simp only [spec_DepthOf.l0]
  rw [if_pos (by omega), if_pos (by omega), if_pos (by omega), w64 (x := (u.length : Int) + 1) (by omega) (by omega), w64 (x := dp + 1) (by omega) (by omega), w64 (x := dp - 1) (by omega) (by omega), hbt, hc, hm]
  have hl : (((u ++ [c]).length : Nat) : Int) = (u.length : Int) + 1 := by simp
  rw [hl]
  by_cases h40 : c = 40
  · subst h40; rw [if_pos (show (((40 : UInt8).toNat : Nat) : Int) = 40 from rfl), if_pos rfl, if_pos rfl]
  · rw [if_neg (show ¬ ((c.toNat : Int) = 40) from u8_ne h40), if_neg h40, if_neg h40]
    by_cases h41 : c = 41
    · subst h41; rw [if_pos (show (((41 : UInt8).toNat : Nat) : Int) = 41 from rfl), if_pos rfl]
    · rw [if_neg (show ¬ ((c.toNat : Int) = 41) from u8_ne h41), if_neg h41]
theorem depth_reads {e ps r} (h : Reads e ps r) : e.length ≤ 1000000 → ∃ d : Nat, d ≤ e.length ∧
    (∀ (pre : List S49) (m : Nat), pre.length + ps.length ≤ 1000000 → Ev (fun k => impl_depth.l0 k m (pre ++ ps) ((pre ++ ps).length) pre.length) (((max m d : Nat)) : Int)) ∧
    (∀ (s : ByteArray) (u t : List UInt8), L s = u ++ e → e = t ++ r → s.size ≤ 1000000 → ∀ (dp m : Int), 0 ≤ dp → dp ≤ u.length → dp ≤ m → ∀ res,
      Ev (fun k => spec_DepthOf.l0 k s dp (mx m (dp + d)) s.size ((u ++ t).length)) res → Ev (fun k => spec_DepthOf.l0 k s dp m s.size u.length) res) := by
  have stop : ∀ (pre : List S49) (m : Nat), Ev (fun k => impl_depth.l0 k m (pre ++ []) ((pre ++ []).length) pre.length) (((max m 0 : Nat)) : Int) := by
    intro pre m
    refine Ev.step (f := fun _ => some (m : Int)) (fun k => ?_) ((Ev.now _).is (by simp))
    simp only [impl_depth.l0]; rw [if_neg (by simp)]
  have still : ∀ (e : List UInt8) (s : ByteArray) (u t : List UInt8), L s = u ++ e → e = t ++ e → s.size ≤ 1000000 → ∀ (dp m : Int), 0 ≤ dp → dp ≤ u.length → dp ≤ m → ∀ res,
      Ev (fun k => spec_DepthOf.l0 k s dp (mx m (dp + (0 : Nat))) s.size ((u ++ t).length)) res → Ev (fun k => spec_DepthOf.l0 k s dp m s.size u.length) res := by
    intro e s u t hs ht hn dp m h0 h1 h2 res hr
    have : t = [] := by
      have := congrArg List.length ht
      simp at this
      exact this
    subst this
    rwa [show mx m (dp + (0 : Nat)) = m by unfold mx; omega, List.append_nil] at hr
  induction h with
  | done => intro _; exact ⟨0, by simp, fun pre m _ => stop pre m, still []⟩
  | other c e => intro _; exact ⟨0, by simp, fun pre m _ => stop pre m, still _⟩
  | bad e w r1 => intro _; exact ⟨0, by simp, fun pre m _ => stop pre m, still _⟩
  | letter c e ps r hc h ih =>
    intro hle
    simp at hle
    obtain ⟨d, hd, i1, i2⟩ := ih (by omega)
    refine ⟨d, by simp; omega, ?_, ?_⟩
    · intro pre m hp
      simp at hp
      have j := i1 (pre ++ [(⟨⟨#[c]⟩, []⟩ : S49)]) m (by simp; omega)
      refine Ev.step (fun k => ?_) j
      simp only [impl_depth.l0]
      rw [if_pos (by simp; omega), if_pos (by omega), if_pos (by simp; omega), rd_at, if_neg (by rw [toList_L]; simp [L]), w64 (by omega) (by omega)]
      simp
    · intro s u t hs ht hn dp m h0 h1 h2 res hr
      have hz := size_suffix hs
      simp at hz
      cases t with
      | nil =>
        have h3 := congrArg List.length ht
        have := h.le
        simp at h3
        omega
      | cons c' t =>
        simp at ht
        obtain ⟨rfl, ht⟩ := ht
        refine rdepth_step s u e c dp m hs hn h0 (by omega) dp m (by rcases hc with rfl | rfl <;> rfl) (by rcases hc with rfl | rfl <;> rfl) ?_
        exact i2 s (u ++ [c]) t (by simp [hs]) ht hn dp m h0 (by simp; omega) h2 res (by simpa using hr)
  | again e w e2 ps r h1 hw h2 ih1 ih2 =>
    intro hle
    simp at hle
    have hl1 := h1.le
    have hl2 := h1.parts
    simp at hl1 hl2
    obtain ⟨d1, hd1, i1, i2⟩ := ih1 (by omega)
    obtain ⟨d2, hd2, j1, j2⟩ := ih2 (by omega)
    refine ⟨max (d1 + 1) d2, by simp; omega, ?_, ?_⟩
    · intro pre m hp
      simp at hp
      have a := i1 [] 0 (by simp; omega)
      have b := j1 (pre ++ [(⟨⟨#[]⟩, w⟩ : S49)]) (max m (d1 + 1)) (by simp; omega)
      refine Ev.step (f := ?f1) (fun k => ?h1) ?k1
      case h1 =>
        simp only [impl_depth.l0]
        rw [if_pos (by simp; omega), if_pos (by omega), if_pos (by simp; omega), rd_at, if_pos (by rw [toList_L]; simp [L]), w64 (x := (pre.length : Int) + 1) (by omega) (by omega)] <;> exact rfl
      refine Ev.bind (a := ((max 0 d1 : Nat) : Int)) (Ev.step (fun k => by first | (simp only [impl_depth.f]; done) | (simp only [impl_depth.f]; simp)) a) ?_
      refine Ev.congr (fun k => ?_) (b.is (by omega))
      rw [w64 (by omega) (by omega), show ((max 0 d1 : Nat) : Int) + 1 = ((d1 + 1 : Nat) : Int) by omega, mx_nat]
      simp
    · intro s u t hs ht hn dp m h0 h1' h2' res hr
      have hz := size_suffix hs
      simp at hz
      obtain ⟨t1, ht1⟩ := h1.suffix
      obtain ⟨t2, ht2⟩ := h2.suffix
      have htt : t = 40 :: (t1 ++ 41 :: 35 :: t2) := by
        have : 40 :: (t1 ++ 41 :: 35 :: t2) ++ r = t ++ r := by rw [← ht, ht1, ht2]; simp
        exact (List.append_cancel_right this).symm
      subst htt
      refine rdepth_step s u e 40 dp m hs hn h0 (by omega) (dp + 1) (mx m (dp + 1)) rfl rfl ?_
      refine i2 s (u ++ [40]) t1 (by simp [hs]) ht1 hn (dp + 1) (mx m (dp + 1)) (by omega) (by simp; omega) (by unfold mx; omega) res ?_
      refine rdepth_step s (u ++ [40] ++ t1) (35 :: e2) 41 (dp + 1) _ (by simp [hs, ht1]) hn (by omega) (by omega) dp _ (by rw [if_neg (by decide), if_pos rfl]; omega) rfl ?_
      refine rdepth_step s (u ++ [40] ++ t1 ++ [41]) e2 35 dp _ (by simp [hs, ht1]) hn (by omega) (by omega) dp _ rfl rfl ?_
      refine j2 s (u ++ [40] ++ t1 ++ [41] ++ [35]) t2 (by simp [hs, ht1]) ht2 hn dp _ (by omega) (by simp; omega) (by unfold mx; omega) res ?_
      have e1 : mx (mx (mx m (dp + 1)) (dp + 1 + d1)) (dp + d2) = mx m (dp + (max (d1 + 1) d2 : Nat)) := by unfold mx; omega
      simp only [show ¬ (35 : UInt8) = 40 by decide, show ¬ (41 : UInt8) = 40 by decide, if_false]
      rw [e1]
      simpa using hr
theorem FnExactDepthOf : laws_FnExactDepthOf.Pure := by
  intro s hs
  refine Ev.rounds (g := fun k => laws_FnExactDepthOf.f k s) (r := true) ?_
  by_cases hz : (s.size : Int) > 1048576
  · exact Ev.congr (f := fun _ => some true) (fun k => by unfold laws_FnExactDepthOf.f; rw [if_pos hz]) (Ev.now _)
  · refine Ev.congr (f := ?f2) (fun k => ?h2) ?k2
    case h2 => unfold laws_FnExactDepthOf.f; rw [if_neg hz] <;> exact rfl
    have key : ∃ v, Ev (fun k => spec_DepthOf.f k s) v ∧ Ev (fun k => impl_DepthOf.f k s) v := by
      by_cases h : s.size ≤ 120
      · obtain ⟨ps, r, hr, hp⟩ := parts_eval s h
        have hv := valid_eval s h hr
        have hle := hr.parts
        rw [← L_size] at hle
        obtain ⟨d, hd, a, b⟩ := depth_reads hr (by rw [← L_size]; omega)
        by_cases hb : ps ≠ [] ∧ r = []
        · rw [decide_eq_true hb] at hv hp
          obtain ⟨hb1, rfl⟩ := hb
          refine ⟨d, ?_, ?_⟩
          · refine Ev.congr (f := ?f3) (fun k => ?h3) ?k3
            case h3 => unfold spec_DepthOf.f; exact rfl
            refine Ev.bind hv ?_
            refine Ev.congr (fun k => by rw [if_pos rfl]) ?_
            refine b s [] (L s) (by simp) (by simp) (by omega) 0 0 (by omega) (by simp) (by omega) d ?_
            refine Ev.step (f := fun _ => some (mx 0 (0 + d))) (fun k => ?_) ((Ev.now _).is (by unfold mx; omega))
            simp only [spec_DepthOf.l0]; rw [if_neg (by simp [← L_size])]
          · refine Ev.congr (f := ?f4) (fun k => ?h4) ?k4
            case h4 => unfold impl_DepthOf.f; exact rfl
            refine Ev.bind hp ?_
            refine Ev.congr (f := ?f5) (fun k => ?h5) ?k5
            case h5 => rw [if_pos rfl] <;> exact rfl
            refine Ev.bind (a := (d : Int)) (Ev.step (fun k => by first | (simp only [impl_depth.f]; done) | (simp only [impl_depth.f]; simp)) ((a [] 0 (by simp; omega)).is (by simp))) (Ev.now _)
        · rw [decide_eq_false hb] at hv hp
          refine ⟨-1, ?_, ?_⟩
          · refine Ev.congr (f := ?f6) (fun k => ?h6) ?k6
            case h6 => unfold spec_DepthOf.f; exact rfl
            exact Ev.bind hv (Ev.congr (f := fun _ => some (-1)) (fun k => by simp) (Ev.now _))
          · refine Ev.congr (f := ?f7) (fun k => ?h7) ?k7
            case h7 => unfold impl_DepthOf.f; exact rfl
            exact Ev.bind hp (Ev.congr (f := fun _ => some (-1)) (fun k => by simp) (Ev.now _))
      · have hv := valid_long s (by omega)
        have hp := parts_long s (by omega)
        refine ⟨-1, ?_, ?_⟩
        · refine Ev.congr (f := ?f8) (fun k => ?h8) ?k8
          case h8 => unfold spec_DepthOf.f; exact rfl
          exact Ev.bind hv (Ev.congr (f := fun _ => some (-1)) (fun k => by simp) (Ev.now _))
        · refine Ev.congr (f := ?f9) (fun k => ?h9) ?k9
          case h9 => unfold impl_DepthOf.f; exact rfl
          exact Ev.bind hp (Ev.congr (f := fun _ => some (-1)) (fun k => by simp) (Ev.now _))
    obtain ⟨v, h1, h2⟩ := key
    refine Ev.bind h1 (Ev.bind h2 ?_)
    exact Ev.congr (f := fun _ => some true) (fun k => by simp) (Ev.now _)

end Go.Proofs.Ytoahkfeegobeoaa.Pure
