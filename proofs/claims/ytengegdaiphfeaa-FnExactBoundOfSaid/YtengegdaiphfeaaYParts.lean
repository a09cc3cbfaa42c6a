import Derived.Test.YtengegdaiphfeaaXImplParts
import Derived.Test.YtengegdaiphfeaaXImplReadParts
import Derived.Test.YtengegdaiphfeaaXSpecExpressionValid
import Derived.Test.YtengegdaiphfeaaXSpecL7End
import Derived.Test.YtengegdaiphfeaaXStringsHasPrefix
import Derived.Test.YtengegdaiphfeaaXStringsliteHasPrefix
import Derived.Test.YtengegdaiphfeaaXT
import Derived.Test.YtengegdaiphfeaaXW
import Derived.Test.YtengegdaiphfeaaYBytes
import Derived.Test.YtengegdaiphfeaaYExpr
namespace Go.Proofs.Ytengegdaiphfeaa.Y
open Go.RowKit Go.Proofs.Ytengegdaiphfeaa.X Go.Proofs.YtengegdaiphfeaaW.PrintWords Go.Proofs.YtengegdaiphfeaaW.PrintLast Go.Proofs.YtengegdaiphfeaaW.PrintMore
set_option linter.unusedVariables false
set_option linter.unusedSimpArgs false
theorem prefix_eval (y : ByteArray) : strings_HasPrefix.f y ⟨#[41, 35]⟩ = some ((L y).take 2 == [41, 35]) := by
  have h2 : (⟨#[41, 35]⟩ : ByteArray).size = 2 := rfl
  have hl : (⟨#[41, 35]⟩ : ByteArray).toList = [41, 35] := by rw [toList_L]; rfl
  unfold strings_HasPrefix.f stringslite_HasPrefix.f
  rw [h2, hl, toList_L, L_extract, L_size]
  cases h : L y with
  | nil => simp
  | cons a t =>
    cases t with
    | nil => simp
    | cons b t =>
      simp
      rw [if_pos (by omega), if_pos (by omega)]
theorem prefix_no {l : List UInt8} (h : ∀ e2, l ≠ 41 :: 35 :: e2) : (l.take 2 == [41, 35]) = false := by
  cases l with
  | nil => rfl
  | cons a t =>
    cases t with
    | nil => simp
    | cons b t =>
      simp
      rintro rfl rfl
      exact h t rfl
theorem parts_reads {e ps r} (h : Reads e ps r) : ∀ (x : ByteArray) (out : List S86), L x = e → out.length + x.size ≤ 1000000 →
    Ev (fun k => impl_readParts.l0 k x out) (out ++ ps, ⟨r.toArray⟩) := by
  induction h with
  | done =>
    intro x out hx hn
    refine Ev.step (f := fun _ => some (out, x)) (fun k => ?_) ((Ev.now _).is ?_)
    · simp only [impl_readParts.l0]; rw [if_pos (by rw [toList_L, hx])]
    · simp; exact L_inj (by rw [hx]; rfl)
  | letter c e ps r hc h ih =>
    intro x out hx hn
    have hz : x.size = e.length + 1 := by rw [L_size, hx]; simp
    have hbt : bt x 0 = (c.toNat : Int) := by rw [bt_L, hx]; simp
    have h1 : L (x.extract 1 x.size) = e := by rw [L_extract, hx, L_size, hx]; simp
    have h0 : x.extract 0 1 = ⟨#[c]⟩ := L_inj (by rw [L_extract, hx]; simp [L])
    refine Ev.step (f := fun k => impl_readParts.j1 k x out (bt x 0) true) (fun k => ?_) ?_
    · simp only [impl_readParts.l0]; rw [if_neg (by rw [toList_L, hx]; simp), if_pos (by omega)]
      rcases hc with rfl | rfl
      · rw [if_pos (by rw [hbt]; rfl), show ((bt x 0) == 97) = true by rw [hbt]; rfl]
      · rw [if_neg (by rw [hbt]; decide), show ((bt x 0) == 98) = true by rw [hbt]; rfl]
    refine Ev.step (f := fun k => impl_readParts.l0 k (x.extract 1 x.size) (out ++ [(⟨⟨#[c]⟩, []⟩ : S86)])) (fun k => ?_) ?_
    · simp only [impl_readParts.j1, if_true]; rw [if_pos (by omega), if_pos (by omega), if_pos (by omega), h0]
    · exact (ih (x.extract 1 x.size) _ h1 (by simp only [List.length_append, List.length_cons, List.length_nil]; rw [L_size, h1]; omega)).is (by simp)
  | again e w e2 ps r h1 hw h2 ih1 ih2 =>
    intro x out hx hn
    have hz : x.size = e.length + 1 := by rw [L_size, hx]; simp
    have hbt : bt x 0 = 40 := by rw [bt_L, hx]; rfl
    have he : L (x.extract 1 x.size) = e := by rw [L_extract, hx, L_size, hx]; simp
    have hle := h1.le
    simp at hle
    refine Ev.step (f := fun k => impl_readParts.j1 k x out 40 false) (fun k => ?_) ?_
    · simp only [impl_readParts.l0]; rw [if_neg (by rw [toList_L, hx]; simp), if_pos (by omega), if_neg (by rw [hbt]; decide), hbt]; rfl
    refine Ev.step (f := ?f1) (fun k => ?h1) ?k1
    case h1 => simp only [impl_readParts.j1]; rw [if_neg (by simp), if_pos trivial, if_pos (by omega)] <;> exact rfl
    have i1 := ih1 (x.extract 1 x.size) [] he (by simp only [List.length_nil]; rw [L_size, he]; omega)
    have hy : L (⟨(41 :: 35 :: e2 : List UInt8).toArray⟩ : ByteArray) = 41 :: 35 :: e2 := L_mk _
    have hyz : (⟨(41 :: 35 :: e2 : List UInt8).toArray⟩ : ByteArray).size = e2.length + 2 := by rw [L_size, hy]; simp
    refine Ev.bind (a := ([] ++ w, ⟨(41 :: 35 :: e2 : List UInt8).toArray⟩)) (Ev.step (fun k => by simp only [impl_readParts.f]) i1) ?_
    have hwl : 0 < w.length := by cases w with
      | nil => exact absurd rfl hw
      | cons a b => simp
    have h2' : L ((⟨(41 :: 35 :: e2 : List UInt8).toArray⟩ : ByteArray).extract 2 (⟨(41 :: 35 :: e2 : List UInt8).toArray⟩ : ByteArray).size) = e2 := by rw [L_extract, hyz, hy]; simp
    have i2 := ih2 _ (out ++ [(⟨⟨#[]⟩, w⟩ : S86)]) h2' (by rw [L_size _, h2']; simp only [List.length_append, List.length_cons, List.length_nil]; omega)
    refine Ev.congr (fun k => ?_) (i2.is (by simp))
    dsimp only
    rw [List.nil_append, if_pos (by omega), prefix_eval, hy, show (List.take 2 (41 :: 35 :: e2) == [41, 35]) = true from rfl, Option.bind_some, if_pos rfl, if_pos (by omega), if_pos (by omega)]
  | other c e c1 c2 c3 =>
    intro x out hx hn
    have hz : x.size = e.length + 1 := by rw [L_size, hx]; simp
    have hbt : bt x 0 = (c.toNat : Int) := by rw [bt_L, hx]; simp
    have hxe : x = ⟨(c :: e).toArray⟩ := L_inj (by rw [hx, L_mk])
    refine Ev.step (f := fun k => impl_readParts.j1 k x out (bt x 0) false) (fun k => ?_) ?_
    · simp only [impl_readParts.l0]; rw [if_neg (by rw [toList_L, hx]; simp), if_pos (by omega), if_neg (by rw [hbt]; exact u8_ne c1), show ((bt x 0) == 98) = false by rw [hbt]; simpa using u8_ne c2]
    refine Ev.step (f := fun _ => some (out, x)) (fun k => ?_) ((Ev.now _).is (by rw [List.append_nil, ← hxe]))
    · simp only [impl_readParts.j1]; rw [if_neg (by simp), if_neg (by rw [hbt]; exact u8_ne c3)]
  | bad e w r1 h1 hw ih =>
    intro x out hx hn
    have hz : x.size = e.length + 1 := by rw [L_size, hx]; simp
    have hbt : bt x 0 = 40 := by rw [bt_L, hx]; rfl
    have he : L (x.extract 1 x.size) = e := by rw [L_extract, hx, L_size, hx]; simp
    have hxe : x = ⟨(40 :: e).toArray⟩ := L_inj (by rw [hx, L_mk])
    refine Ev.step (f := fun k => impl_readParts.j1 k x out 40 false) (fun k => ?_) ?_
    · simp only [impl_readParts.l0]; rw [if_neg (by rw [toList_L, hx]; simp), if_pos (by omega), if_neg (by rw [hbt]; decide), hbt]; rfl
    refine Ev.step (f := ?f2) (fun k => ?h2) ?k2
    case h2 => simp only [impl_readParts.j1]; rw [if_neg (by simp), if_pos trivial, if_pos (by omega)] <;> exact rfl
    have i1 := ih (x.extract 1 x.size) [] he (by simp only [List.length_nil]; rw [L_size, he]; omega)
    refine Ev.bind (a := ([] ++ w, ⟨r1.toArray⟩)) (Ev.step (fun k => by simp only [impl_readParts.f]) i1) ?_
    refine Ev.congr (f := fun _ => some (out, x)) (fun k => ?_) ((Ev.now _).is (by rw [List.append_nil, ← hxe]))
    dsimp only
    by_cases hwl : w = []
    · subst hwl; rw [if_neg (by simp)]
    · have hwl' : 0 < w.length := by cases w with
        | nil => exact absurd rfl hwl
        | cons a b => simp
      have hn : ∀ e2, r1 ≠ 41 :: 35 :: e2 := by
        rcases hw with h' | h'
        · exact absurd h' hwl
        · exact h'
      rw [List.nil_append, if_pos (by omega), prefix_eval, L_mk, prefix_no hn, Option.bind_some, if_neg (by simp)]
/-- what both make of a text: valid, and its parts -/
theorem parts_eval (s : ByteArray) (hs : s.size ≤ 120) : ∃ ps r, Reads (L s) ps r ∧ Ev (fun k => impl_parts.f k s) (ps, decide (ps ≠ [] ∧ r = [])) := by
  obtain ⟨ps, r, h⟩ := reads_all (L s).length (L s) (Nat.le_refl _)
  refine ⟨ps, r, h, ?_⟩
  have h1 := parts_reads h s [] rfl (by simp; omega)
  refine Ev.congr (f := ?f3) (fun k => ?h3) ?k3
  case h3 => unfold impl_parts.f; rw [if_neg (by omega)] <;> exact rfl
  refine Ev.bind (Ev.step (fun k => by simp only [impl_readParts.f]) h1) ?_
  refine Ev.congr (f := fun _ => some (ps, decide (ps ≠ [] ∧ r = []))) (fun k => ?_) (Ev.now _)
  dsimp only
  rw [List.nil_append, toList_L, L_mk]
  cases ps with
  | nil => simp
  | cons p ps => simp; cases r <;> simp
theorem parts_long (s : ByteArray) (hs : 120 < s.size) : Ev (fun k => impl_parts.f k s) ([], false) := by
  refine Ev.congr (f := fun _ => some ([], false)) (fun k => ?_) (Ev.now _)
  unfold impl_parts.f; rw [if_pos (by omega)]
theorem valid_eval (s : ByteArray) (hs : s.size ≤ 120) {ps r} (h : Reads (L s) ps r) : Ev (fun k => spec_ExpressionValid.f k s) (decide (ps ≠ [] ∧ r = [])) := by
  have h1 := end_reads h s [] 0 (by simp) (by omega) (by omega) (by simp)
  have hz : s.size = (L s).length := L_size s
  refine Ev.congr (f := ?f4) (fun k => ?h4) ?k4
  case h4 => unfold spec_ExpressionValid.f; rw [if_pos (by omega)] <;> exact rfl
  refine Ev.bind (a := endv s r 0) (Ev.step (fun k => by simp only [spec_l7End.f]; rfl) h1) ?_
  refine Ev.congr (f := fun _ => some (decide (ps ≠ [] ∧ r = []))) (fun k => ?_) (Ev.now _)
  by_cases hr : r = []
  · subst hr
    by_cases hp : ps = []
    · subst hp
      have := h.none
      have h0 : s.size = 0 := by rw [hz, ← this]; rfl
      have e : endv s [] 0 = -1 := by unfold endv; rw [if_pos (.inl rfl), if_pos (by rw [h0]; rfl)]
      rw [e, if_neg (by omega)]; simp
    · have := h.some hp
      simp only [List.length_nil] at this
      have e : endv s [] 0 = s.size := by unfold endv; rw [if_pos (.inl rfl), if_neg (by simp only [List.length_nil]; omega)]; simp
      rw [e, if_pos rfl]
      have hp2 : ps ≠ [] ∧ ([] : List UInt8) = [] := ⟨hp, rfl⟩
      rw [decide_eq_true hp2, decide_eq_true (show (s.size : Int) > 0 by omega)]
  · have hl : 0 < r.length := by cases r with
      | nil => exact absurd rfl hr
      | cons a b => simp
    rw [if_neg (by unfold endv; split <;> (try split) <;> omega)]; simp [hr]
theorem valid_long (s : ByteArray) (hs : 120 < s.size) : Ev (fun k => spec_ExpressionValid.f k s) false := by
  refine Ev.congr (f := fun _ => some false) (fun k => ?_) (Ev.now _)
  unfold spec_ExpressionValid.f; rw [if_neg (by omega)]

theorem valid_both (s : ByteArray) : ∃ b ps, Ev (fun k => spec_ExpressionValid.f k s) b ∧ Ev (fun k => impl_parts.f k s) (ps, b) := by
  by_cases h : s.size ≤ 120
  · obtain ⟨ps, r, hr, hp⟩ := parts_eval s h
    exact ⟨_, ps, valid_eval s h hr, hp⟩
  · exact ⟨false, [], valid_long s (by omega), parts_long s (by omega)⟩

end Go.Proofs.Ytengegdaiphfeaa.Y
