/- Proved: the program's BoundOf returns what the reference's returns, for every text. No condition. -/
import Derived.Test.YtengegdaiphfeaaXImplAddCost
import Derived.Test.YtengegdaiphfeaaXImplBound
import Derived.Test.YtengegdaiphfeaaXImplBoundOf
import Derived.Test.YtengegdaiphfeaaXImplCostValid
import Derived.Test.YtengegdaiphfeaaXImplParts
import Derived.Test.YtengegdaiphfeaaXImplTimes
import Derived.Test.YtengegdaiphfeaaXImplTimesCost
import Derived.Test.YtengegdaiphfeaaXLawsFnExactBoundOf
import Derived.Test.YtengegdaiphfeaaXSpecBoundOf
import Derived.Test.YtengegdaiphfeaaXSpecCostValid
import Derived.Test.YtengegdaiphfeaaXSpecExpressionValid
import Derived.Test.YtengegdaiphfeaaXSpecL1Add
import Derived.Test.YtengegdaiphfeaaXSpecL1In
import Derived.Test.YtengegdaiphfeaaXSpecL7Bound
import Derived.Test.YtengegdaiphfeaaXSpecL7End
import Derived.Test.YtengegdaiphfeaaXSpecL7Next
import Derived.Test.YtengegdaiphfeaaXSpecTimesCost
import Derived.Test.YtengegdaiphfeaaXT
import Derived.Test.YtengegdaiphfeaaXW
import Derived.Test.YtengegdaiphfeaaYBytes
import Derived.Test.YtengegdaiphfeaaYExpr
import Derived.Test.YtengegdaiphfeaaYParts
namespace Go.Proofs.Ytengegdaiphfeaa.Pure
open Go.RowKit Go.Proofs.Ytengegdaiphfeaa.X Go.Proofs.Ytengegdaiphfeaa.Y Go.Proofs.YtengegdaiphfeaaW.PrintWords Go.Proofs.YtengegdaiphfeaaW.PrintLast Go.Proofs.YtengegdaiphfeaaW.PrintMore
set_option linter.unusedVariables false
set_option linter.unusedSimpArgs false
theorem rd_at (pre : List S86) (p : S86) (ps : List S86) : rd_T86 (pre ++ p :: ps) (pre.length : Int) = p := by
  simp [rd_T86, List.getD_eq_getElem?_getD]
/-- a sum of two bounds -/
def addB (a b : Int) : Int := mn (a + b) 1000000
theorem addB_in (a b : Int) (h0 : 0 ≤ a) (h1 : 0 ≤ b) : 0 ≤ addB a b ∧ addB a b ≤ 1000000 := by unfold addB mn; omega
theorem sadd (a b : Int) (h0 : 0 ≤ a) (h1 : a ≤ 1000000) (h2 : 0 ≤ b) (h3 : b ≤ 1000000) : spec_l1Add.f a b = some (addB a b) := by
  unfold spec_l1Add.f addB; rw [w64 (by omega) (by omega)]
theorem icv (a : Int) : impl_CostValid.f a = some (decide (0 ≤ a ∧ a ≤ 1000000)) := by
  unfold impl_CostValid.f
  by_cases h : a ≥ 0
  · rw [if_pos h]; by_cases h2 : a ≤ 1000000 <;> simp [h2] <;> omega
  · rw [if_neg h]; simp; omega
theorem iadd (a b : Int) (h0 : 0 ≤ a) (h1 : a ≤ 1000000) (h2 : 0 ≤ b) (h3 : b ≤ 1000000) : impl_AddCost.f a b = some (addB a b) := by
  unfold impl_AddCost.f addB
  rw [icv, decide_eq_true ⟨h0, h1⟩, Option.bind_some, if_pos rfl, icv, decide_eq_true ⟨h2, h3⟩, Option.bind_some, if_pos rfl, w64 (by omega) (by omega)]
theorem scv (a : Int) : spec_CostValid.f a = some (decide (0 ≤ a ∧ a ≤ 1000000)) := by
  unfold spec_CostValid.f spec_l1In.f
  by_cases h : a ≥ 0
  · rw [if_pos h]; by_cases h2 : a ≤ 1000000 <;> simp [h2] <;> omega
  · rw [if_neg h]; simp; omega
theorem tdiv_pos (a : Int) (h0 : 0 < a) : Int.tdiv 1000000 a = 1000000 / a := Int.tdiv_eq_ediv_of_nonneg (by omega)
theorem div_two (a : Int) (h0 : 0 < a) (h1 : a ≤ 1000000) : (2 > 1000000 / a ↔ 2 * a > 1000000) ∧ 0 ≤ 1000000 / a ∧ 1000000 / a ≤ 1000000 := by
  have h2 : 0 ≤ 1000000 / a := Int.ediv_nonneg (by omega) (by omega)
  have h3 : 1000000 / a ≤ 1000000 := Int.ediv_le_self _ (by omega)
  refine ⟨⟨fun h => ?_, fun h => ?_⟩, h2, h3⟩
  · have := Int.lt_mul_of_ediv_lt h0 h; omega
  · exact Int.ediv_lt_of_lt_mul h0 (by omega)
theorem two_in (a : Int) (h0 : 0 ≤ a) : 0 ≤ mn (2 * a) 1000000 ∧ mn (2 * a) 1000000 ≤ 1000000 := by unfold mn; omega
theorem itwo (a : Int) (h0 : 0 ≤ a) (h1 : a ≤ 1000000) : Ev (fun k => impl_TimesCost.f k 2 a) (mn (2 * a) 1000000) := by
  refine Ev.congr (f := ?f1) (fun k => ?h1) ?k1
  case h1 => unfold impl_TimesCost.f; rw [if_neg (by omega), icv, decide_eq_true ⟨h0, h1⟩, Option.bind_some] <;> exact rfl
  refine Ev.step (f := fun _ => some (mn (2 * a) 1000000)) (fun k => ?_) (Ev.now _)
  simp only [impl_TimesCost.j0]
  rw [if_neg (by simp)]
  by_cases h : a = 0
  · subst h; rw [if_pos rfl]; rfl
  · have hd := div_two a (by omega) h1
    rw [if_neg h]; unfold impl_times.f
    rw [if_neg h, tdiv_pos a (by omega), w64 (by omega) (by omega)]
    by_cases h2 : 2 > 1000000 / a
    · rw [if_pos h2]; have := hd.1.mp h2; simp; unfold mn; omega
    · rw [if_neg h2, w64 (by omega) (by omega)]; have := fun h => h2 (hd.1.mpr h); simp; unfold mn; omega
theorem stwo (a : Int) (h0 : 0 ≤ a) (h1 : a ≤ 1000000) : Ev (fun k => spec_TimesCost.f k 2 a) (mn (2 * a) 1000000) := by
  refine Ev.congr (f := ?f2) (fun k => ?h2) ?k2
  case h2 => unfold spec_TimesCost.f; rw [if_neg (by omega), scv, decide_eq_true ⟨h0, h1⟩, Option.bind_some] <;> exact rfl
  refine Ev.step (f := fun k => spec_TimesCost.j1 k 2 a (a == 0)) (fun k => ?_) ?_
  · simp only [spec_TimesCost.j0]; rw [if_neg (by simp), if_neg (by omega)]
  refine Ev.step (f := fun _ => some (mn (2 * a) 1000000)) (fun k => ?_) (Ev.now _)
  simp only [spec_TimesCost.j1]
  by_cases h : a = 0
  · subst h; rw [if_pos rfl]; rfl
  · have hd := div_two a (by omega) h1
    rw [if_neg (by simpa using h), if_neg h, tdiv_pos a (by omega), w64 (by omega) (by omega)]
    by_cases h2 : 2 > 1000000 / a
    · rw [if_pos h2]; have := hd.1.mp h2; simp; unfold mn; omega
    · rw [if_neg h2, w64 (by omega) (by omega)]
/-- the first part of an expression, as the reference takes it -/
theorem next_letter (x : ByteArray) (c : UInt8) (e : List UInt8) (hx : L x = c :: e) (hc : c = 97 ∨ c = 98) : Ev (fun k => spec_l7Next.f k x) (⟨#[c]⟩, false, ⟨e.toArray⟩) := by
  have hz : x.size = e.length + 1 := by rw [L_size, hx]; simp
  have hbt : bt x 0 = (c.toNat : Int) := by rw [bt_L, hx]; simp
  have h0 : x.extract 0 1 = ⟨#[c]⟩ := L_inj (by rw [L_extract, hx]; simp [L])
  have h1 : x.extract 1 x.size = ⟨e.toArray⟩ := L_inj (by rw [L_extract, hx, L_mk, L_size, hx]; simp)
  refine Ev.congr (f := fun _ => some (⟨#[c]⟩, false, ⟨e.toArray⟩)) (fun k => ?_) (Ev.now _)
  unfold spec_l7Next.f
  rw [if_pos (by omega), if_neg (by rw [hbt]; rcases hc with rfl | rfl <;> decide), if_pos (by omega), if_pos (by omega), h0, h1]
theorem next_again (x : ByteArray) (e v e2 : List UInt8) (w : List S86) (hx : L x = 40 :: e) (hv : e = v ++ 41 :: 35 :: e2) (h : Reads e w (41 :: 35 :: e2)) (hw : w ≠ []) (hn : x.size ≤ 1000000) :
    Ev (fun k => spec_l7Next.f k x) (⟨v.toArray⟩, true, ⟨e2.toArray⟩) := by
  have hz : x.size = e.length + 1 := by rw [L_size, hx]; simp
  have hel : e.length = v.length + 2 + e2.length := by rw [hv]; simp; omega
  have hbt : bt x 0 = 40 := by rw [bt_L, hx]; rfl
  have hlt := h.some hw
  simp only [List.length_cons] at hlt
  have h1 := end_reads h x [40] 1 (by simp [hx]) hn (by omega) (by simp)
  have he : endv x (41 :: 35 :: e2) 1 = ((v.length + 1 : Nat) : Int) := by
    unfold endv; rw [if_pos (.inr rfl), if_neg (by simp only [List.length_cons]; omega)]; simp only [List.length_cons]; omega
  rw [he] at h1
  refine Ev.congr (f := ?f3) (fun k => ?h3) ?k3
  case h3 => unfold spec_l7Next.f; rw [if_pos (by omega), if_pos hbt] <;> exact rfl
  refine Ev.bind (Ev.step (fun k => by simp only [spec_l7End.f]; rfl) h1) ?_
  have e1 : x.extract 1 (v.length + 1) = ⟨v.toArray⟩ := L_inj (by rw [L_extract, hx, L_mk, hv]; simp)
  have e2' : x.extract (v.length + 3) x.size = ⟨e2.toArray⟩ := L_inj (by rw [L_extract, hx, L_mk e2, List.take_of_length_le (by rw [List.length_cons, hz]; exact Nat.le_refl _), hv, show (40 :: (v ++ 41 :: 35 :: e2) : List UInt8) = (40 :: v ++ [41, 35]) ++ e2 by simp, List.drop_left' (by simp)])
  refine Ev.congr (f := fun _ => some (⟨v.toArray⟩, true, ⟨e2.toArray⟩)) (fun k => ?_) (Ev.now _)
  rw [w64 (by omega) (by omega), if_pos (by omega), if_pos (by omega), if_pos (by omega), if_pos (by omega)]
  rw [show (((v.length + 1 : Nat) : Int) + 2).toNat = v.length + 3 by omega, Int.toNat_natCast, e1, e2']
/-- what is read up to a closing bracket, or to the end, is read up to any other one -/
theorem reads_cut {e w r} (h : Reads e w r) : (r = [] ∨ r.head? = some 41) → ∀ v, e = v ++ r → ∀ r', (r' = [] ∨ r'.head? = some 41) → Reads (v ++ r') w r' := by
  have stop : ∀ r' : List UInt8, (r' = [] ∨ r'.head? = some 41) → Reads r' [] r' := by
    intro r' h
    rcases h with rfl | h
    · exact .done
    · cases r' with
      | nil => simp at h
      | cons c t => simp at h; subst h; exact .other 41 t (by decide) (by decide) (by decide)
  have self : ∀ (e v : List UInt8), e = v ++ e → v = [] := by
    intro e v h
    have h3 := congrArg List.length h
    simp at h3
    exact h3
  induction h with
  | done => intro _ v hv r' hr'; rw [self _ _ hv]; exact stop r' hr'
  | other c e => intro _ v hv r' hr'; rw [self _ _ hv]; exact stop r' hr'
  | bad e w r1 => intro hr v hv r' hr'; simp at hr
  | letter c e ps r hc h ih =>
    intro hr v hv r' hr'
    cases v with
    | nil =>
      have h3 := congrArg List.length hv
      have := h.le
      simp at h3
      omega
    | cons d v =>
      simp at hv
      obtain ⟨rfl, hv⟩ := hv
      exact .letter c (v ++ r') ps r' hc (ih hr v hv r' hr')
  | again e w e2 ps r h1 hw h2 ih1 ih2 =>
    intro hr v hv r' hr'
    obtain ⟨t1, ht1⟩ := h1.suffix
    obtain ⟨t2, ht2⟩ := h2.suffix
    have hvv : v = 40 :: (t1 ++ 41 :: 35 :: t2) := by
      have : 40 :: (t1 ++ 41 :: 35 :: t2) ++ r = v ++ r := by rw [← hv, ht1, ht2]; simp
      exact (List.append_cancel_right this).symm
    subst hvv
    have a := ih1 (.inr rfl) t1 ht1 (41 :: 35 :: (t2 ++ r')) (.inr rfl)
    have b := ih2 hr t2 ht2 r' hr'
    simpa using Reads.again (t1 ++ 41 :: 35 :: (t2 ++ r')) w (t2 ++ r') ps r' a hw b
theorem reads_inner {e t1 e2 : List UInt8} {w} (h : Reads e w (41 :: 35 :: e2)) (hv : e = t1 ++ 41 :: 35 :: e2) : Reads t1 w [] := by
  simpa using reads_cut h (.inr rfl) t1 hv [] (.inl rfl)
theorem bound_reads (n : Nat) : ∀ (e : List UInt8) (ps : List S86), e.length ≤ n → e.length ≤ 1000000 → Reads e ps [] → ∃ bs : List Int, (∀ a, 0 ≤ a → a ≤ 1000000 → 0 ≤ bs.foldl addB a ∧ bs.foldl addB a ≤ 1000000) ∧
    (∀ (x : ByteArray) (acc : Int), L x = e → 0 ≤ acc → acc ≤ 1000000 → Ev (fun k => spec_l7Bound.l0 k x acc) (bs.foldl addB acc)) ∧
    (∀ (pre : List S86) (acc : Int), pre.length + ps.length ≤ 1000000 → 0 ≤ acc → acc ≤ 1000000 → Ev (fun k => impl_bound.l0 k acc (pre ++ ps) ((pre ++ ps).length) pre.length) (bs.foldl addB acc)) := by
  induction n with
  | zero =>
    intro e ps hn hm h
    have he : e = [] := List.length_eq_zero_iff.mp (by omega)
    subst he
    cases h
    refine ⟨[], fun a h0 h1 => ⟨h0, h1⟩, ?_, ?_⟩
    · intro x acc hx h0 h1
      refine Ev.step (f := fun _ => some acc) (fun k => ?_) (Ev.now _)
      simp only [spec_l7Bound.l0]; rw [if_pos (by rw [toList_L, hx])]
    · intro pre acc hp h0 h1
      refine Ev.step (f := fun _ => some acc) (fun k => ?_) (Ev.now _)
      simp only [impl_bound.l0]; rw [if_neg (by simp)]
  | succ n ih =>
    intro e ps hn hm h
    cases h with
    | done =>
      refine ⟨[], fun a h0 h1 => ⟨h0, h1⟩, ?_, ?_⟩
      · intro x acc hx h0 h1
        refine Ev.step (f := fun _ => some acc) (fun k => ?_) (Ev.now _)
        simp only [spec_l7Bound.l0]; rw [if_pos (by rw [toList_L, hx])]
      · intro pre acc hp h0 h1
        refine Ev.step (f := fun _ => some acc) (fun k => ?_) (Ev.now _)
        simp only [impl_bound.l0]; rw [if_neg (by simp)]
    | letter c e ps _ hc h =>
      simp at hn hm
      obtain ⟨bs, hb, i1, i2⟩ := ih e ps (by omega) (by omega) h
      have hadd := fun a (h0 : 0 ≤ a) => addB_in a 3 h0 (by omega)
      refine ⟨3 :: bs, fun a h0 h1 => by simpa using hb (addB a 3) (hadd a h0).1 (hadd a h0).2, ?_, ?_⟩
      · intro x acc hx h0 h1
        refine Ev.step (f := ?f4) (fun k => ?h4) ?k4
        case h4 => simp only [spec_l7Bound.l0]; rw [if_neg (by rw [toList_L, hx]; simp)] <;> exact rfl
        refine Ev.bind (next_letter x c e hx hc) ?_
        refine Ev.congr (fun k => ?_) (i1 ⟨e.toArray⟩ (addB acc 3) (L_mk e) (hadd acc h0).1 (hadd acc h0).2)
        dsimp only
        rw [if_neg (by simp), sadd acc 3 h0 h1 (by omega) (by omega), Option.bind_some]
      · intro pre acc hp h0 h1
        simp at hp
        have j := i2 (pre ++ [(⟨⟨#[c]⟩, []⟩ : S86)]) (addB acc 3) (by simp; omega) (hadd acc h0).1 (hadd acc h0).2
        refine Ev.step (fun k => ?_) j
        simp only [impl_bound.l0]
        rw [if_pos (by simp; omega), if_pos (by omega), if_pos (by simp; omega), rd_at, if_neg (by rw [toList_L]; simp [L]), iadd acc 3 h0 h1 (by omega) (by omega), Option.bind_some, w64 (by omega) (by omega)]
        simp
    | again e w e2 ps _ h1 hw h2 =>
      obtain ⟨t1, ht1⟩ := h1.suffix
      have hl1 := h1.parts
      have hel : e.length = t1.length + 2 + e2.length := by rw [ht1]; simp; omega
      simp at hn hm hl1
      obtain ⟨cs, hcs, j1, j2⟩ := ih t1 w (by omega) (by omega) (reads_inner h1 ht1)
      obtain ⟨bs, hb, i1, i2⟩ := ih e2 ps (by omega) (by omega) h2
      have hB := hcs 0 (by omega) (by omega)
      have hT := two_in (cs.foldl addB 0) hB.1
      have hadd := fun a (h0 : 0 ≤ a) => addB_in a (mn (2 * cs.foldl addB 0) 1000000) h0 hT.1
      refine ⟨mn (2 * cs.foldl addB 0) 1000000 :: bs, fun a h0 h1 => by simpa using hb _ (hadd a h0).1 (hadd a h0).2, ?_, ?_⟩
      · intro x acc hx h0 h1'
        have hxs : x.size ≤ 1000000 := by rw [L_size, hx]; simp; omega
        refine Ev.step (f := ?f5) (fun k => ?h5) ?k5
        case h5 => simp only [spec_l7Bound.l0]; rw [if_neg (by rw [toList_L, hx]; simp)] <;> exact rfl
        refine Ev.bind (next_again x e t1 e2 w hx ht1 h1 hw hxs) ?_
        refine Ev.congr (f := ?f6) (fun k => ?h6) ?k6
        case h6 => dsimp only; rw [if_pos rfl] <;> exact rfl
        refine Ev.bind (Ev.step (fun k => by simp only [spec_l7Bound.f]) (j1 ⟨t1.toArray⟩ 0 (L_mk t1) (by omega) (by omega))) ?_
        refine Ev.bind (stwo _ hB.1 hB.2) ?_
        refine Ev.congr (fun k => ?_) (i1 ⟨e2.toArray⟩ _ (L_mk e2) (hadd acc h0).1 (hadd acc h0).2)
        rw [sadd acc _ h0 h1' hT.1 hT.2, Option.bind_some]
      · intro pre acc hp h0 h1'
        simp at hp
        have j := i2 (pre ++ [(⟨⟨#[]⟩, w⟩ : S86)]) (addB acc (mn (2 * cs.foldl addB 0) 1000000)) (by simp; omega) (hadd acc h0).1 (hadd acc h0).2
        refine Ev.step (f := ?f7) (fun k => ?h7) ?k7
        case h7 =>
          simp only [impl_bound.l0]
          rw [if_pos (by simp; omega), if_pos (by omega), if_pos (by simp; omega), rd_at, if_pos (by rw [toList_L]; simp [L]), w64 (x := (pre.length : Int) + 1) (by omega) (by omega)] <;> exact rfl
        refine Ev.bind (a := cs.foldl addB 0) (Ev.step (fun k => by first | (simp only [impl_bound.f]; done) | (simp only [impl_bound.f]; simp)) ((j2 [] 0 (by simp; omega) (by omega) (by omega)))) ?_
        refine Ev.bind (itwo _ hB.1 hB.2) ?_
        refine Ev.congr (fun k => ?_) j
        rw [iadd acc _ h0 h1' hT.1 hT.2, Option.bind_some]
        simp
theorem FnExactBoundOf : laws_FnExactBoundOf.Pure := by
  intro s hs
  refine Ev.rounds (g := fun k => laws_FnExactBoundOf.f k s) (r := true) ?_
  by_cases hz : (s.size : Int) > 1048576
  · exact Ev.congr (f := fun _ => some true) (fun k => by unfold laws_FnExactBoundOf.f; rw [if_pos hz]) (Ev.now _)
  · refine Ev.congr (f := ?f8) (fun k => ?h8) ?k8
    case h8 => unfold laws_FnExactBoundOf.f; rw [if_neg hz] <;> exact rfl
    have key : ∃ v, Ev (fun k => spec_BoundOf.f k s) v ∧ Ev (fun k => impl_BoundOf.f k s) v := by
      have no : ∀ ps, Ev (fun k => spec_ExpressionValid.f k s) false → Ev (fun k => impl_parts.f k s) (ps, false) → ∃ v, Ev (fun k => spec_BoundOf.f k s) v ∧ Ev (fun k => impl_BoundOf.f k s) v := by
        intro ps hv hp
        refine ⟨-1, ?_, ?_⟩
        · refine Ev.congr (f := ?f9) (fun k => ?h9) ?k9
          case h9 => unfold spec_BoundOf.f; exact rfl
          exact Ev.bind hv (Ev.congr (f := fun _ => some (-1)) (fun k => by simp) (Ev.now _))
        · refine Ev.congr (f := ?f10) (fun k => ?h10) ?k10
          case h10 => unfold impl_BoundOf.f; exact rfl
          exact Ev.bind hp (Ev.congr (f := fun _ => some (-1)) (fun k => by simp) (Ev.now _))
      by_cases h : s.size ≤ 120
      · obtain ⟨ps, r, hr, hp⟩ := parts_eval s h
        have hv := valid_eval s h hr
        have hle := hr.parts
        rw [← L_size] at hle
        by_cases hb : ps ≠ [] ∧ r = []
        · rw [decide_eq_true hb] at hv hp
          obtain ⟨hb1, rfl⟩ := hb
          obtain ⟨bs, hbs, i1, i2⟩ := bound_reads (L s).length (L s) ps (Nat.le_refl _) (by rw [← L_size]; omega) hr
          refine ⟨bs.foldl addB 0, ?_, ?_⟩
          · refine Ev.congr (f := ?f11) (fun k => ?h11) ?k11
            case h11 => unfold spec_BoundOf.f; exact rfl
            refine Ev.bind hv ?_
            refine Ev.congr (f := ?f12) (fun k => ?h12) ?k12
            case h12 => rw [if_pos rfl] <;> exact rfl
            exact Ev.bind (Ev.step (fun k => by simp only [spec_l7Bound.f]) (i1 s 0 rfl (by omega) (by omega))) (Ev.now _)
          · refine Ev.congr (f := ?f13) (fun k => ?h13) ?k13
            case h13 => unfold impl_BoundOf.f; exact rfl
            refine Ev.bind hp ?_
            refine Ev.congr (f := ?f14) (fun k => ?h14) ?k14
            case h14 => rw [if_pos rfl] <;> exact rfl
            exact Ev.bind (Ev.step (fun k => by first | (simp only [impl_bound.f]; done) | (simp only [impl_bound.f]; simp)) (i2 [] 0 (by simp; omega) (by omega) (by omega))) (Ev.now _)
        · rw [decide_eq_false hb] at hv hp
          exact no ps hv hp
      · exact no [] (valid_long s (by omega)) (parts_long s (by omega))
    obtain ⟨v, h1, h2⟩ := key
    refine Ev.bind h1 (Ev.bind h2 ?_)
    exact Ev.congr (f := fun _ => some true) (fun k => by simp) (Ev.now _)

end Go.Proofs.Ytengegdaiphfeaa.Pure
