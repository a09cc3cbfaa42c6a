import Derived.Test.YtengegdaiphfeaaXSpecL7End
import Derived.Test.YtengegdaiphfeaaXT
import Derived.Test.YtengegdaiphfeaaXW
import Derived.Test.YtengegdaiphfeaaYBytes
namespace Go.Proofs.Ytengegdaiphfeaa.Y
open Go.RowKit Go.Proofs.Ytengegdaiphfeaa.X Go.Proofs.YtengegdaiphfeaaW.PrintWords Go.Proofs.YtengegdaiphfeaaW.PrintLast Go.Proofs.YtengegdaiphfeaaW.PrintMore
set_option linter.unusedVariables false
set_option linter.unusedSimpArgs false
/-! ### expressions: what is read of a text -/
inductive Reads : List UInt8 → List S86 → List UInt8 → Prop
  | done : Reads [] [] []
  | letter (c : UInt8) (e : List UInt8) (ps : List S86) (r : List UInt8) : (c = 97 ∨ c = 98) → Reads e ps r → Reads (c :: e) ((⟨⟨#[c]⟩, []⟩ : S86) :: ps) r
  | again (e : List UInt8) (w : List S86) (e2 : List UInt8) (ps : List S86) (r : List UInt8) : Reads e w (41 :: 35 :: e2) → w ≠ [] → Reads e2 ps r → Reads (40 :: e) ((⟨⟨#[]⟩, w⟩ : S86) :: ps) r
  | other (c : UInt8) (e : List UInt8) : c ≠ 97 → c ≠ 98 → c ≠ 40 → Reads (c :: e) [] (c :: e)
  | bad (e : List UInt8) (w : List S86) (r1 : List UInt8) : Reads e w r1 → (w = [] ∨ ∀ e2, r1 ≠ 41 :: 35 :: e2) → Reads (40 :: e) [] (40 :: e)
theorem Reads.suffix {e ps r} (h : Reads e ps r) : ∃ v, e = v ++ r := by
  induction h with
  | done => exact ⟨[], rfl⟩
  | letter c e ps r _ _ ih => obtain ⟨v, rfl⟩ := ih; exact ⟨c :: v, rfl⟩
  | again e w e2 ps r _ _ _ ih1 ih2 =>
    obtain ⟨v1, rfl⟩ := ih1; obtain ⟨v2, rfl⟩ := ih2
    exact ⟨40 :: (v1 ++ 41 :: 35 :: v2), by simp⟩
  | other c e => exact ⟨[], rfl⟩
  | bad e w r1 => exact ⟨[], rfl⟩
theorem Reads.none {e r} (h : Reads e [] r) : r = e := by cases h <;> rfl
theorem Reads.some {e ps r} (h : Reads e ps r) (hp : ps ≠ []) : r.length < e.length := by
  cases h with
  | done => exact absurd rfl hp
  | letter c e ps r _ h => obtain ⟨v, rfl⟩ := h.suffix; simp; omega
  | again e w e2 ps r h1 _ h2 => obtain ⟨v1, rfl⟩ := h1.suffix; obtain ⟨v2, rfl⟩ := h2.suffix; simp; omega
  | other c e => exact absurd rfl hp
  | bad e w r1 => exact absurd rfl hp
theorem Reads.le {e ps r} (h : Reads e ps r) : r.length ≤ e.length := by obtain ⟨v, rfl⟩ := h.suffix; simp
theorem Reads.parts {e ps r} (h : Reads e ps r) : ps.length + r.length ≤ e.length := by
  induction h with
  | done => simp
  | letter c e ps r _ _ ih => simp; omega
  | again e w e2 ps r h1 _ _ ih1 ih2 => have := h1.le; simp at *; omega
  | other c e => simp
  | bad e w r1 => simp
theorem reads_all (n : Nat) : ∀ e : List UInt8, e.length ≤ n → ∃ ps r, Reads e ps r := by
  induction n with
  | zero => intro e h; cases e with
    | nil => exact ⟨[], [], .done⟩
    | cons c e => simp at h
  | succ n ih =>
    intro e h
    cases e with
    | nil => exact ⟨[], [], .done⟩
    | cons c e =>
      simp at h
      by_cases h1 : c = 97 ∨ c = 98
      · obtain ⟨ps, r, hr⟩ := ih e h; exact ⟨_, _, .letter c e ps r h1 hr⟩
      · by_cases h2 : c = 40
        · subst h2
          obtain ⟨w, r1, hw⟩ := ih e h
          by_cases h3 : w = [] ∨ ∀ e2, r1 ≠ 41 :: 35 :: e2
          · exact ⟨_, _, .bad e w r1 hw h3⟩
          · obtain ⟨h4, h5⟩ := not_or.mp h3
            obtain ⟨e2, h6⟩ := Classical.not_forall.mp h5
            have h6 := Classical.not_not.mp h6
            subst h6
            have := hw.le
            obtain ⟨ps, r, hr⟩ := ih e2 (by simp at this; omega)
            exact ⟨_, _, .again e w e2 ps r hw h4 hr⟩
        · exact ⟨_, _, .other c e (fun h => h1 (.inl h)) (fun h => h1 (.inr h)) h2⟩
theorem bt_suffix {s : ByteArray} {u : List UInt8} {c : UInt8} {e : List UInt8} (h : L s = u ++ c :: e) : bt s u.length = (c.toNat : Int) := by
  rw [bt_L, h]; simp [List.getD_eq_getElem?_getD]
theorem size_suffix {s : ByteArray} {u e : List UInt8} (h : L s = u ++ e) : s.size = u.length + e.length := by rw [L_size, h]; simp
theorem u8_ne {c d : UInt8} (h : c ≠ d) : ¬ ((c.toNat : Int) = (d.toNat : Int)) := by
  intro e; exact h (UInt8.toNat.inj (by exact_mod_cast e))
/-- where the expression ends that is read, with 'begun' its begin: '-1' if it is none -/
def endv (s : ByteArray) (r : List UInt8) (b : Int) : Int :=
  if r = [] ∨ r.head? = some 41 then (if (s.size : Int) - r.length = b then -1 else (s.size : Int) - r.length) else -1
theorem _root_.Go.Proofs.YtengegdaiphfeaaW.PrintWords.Ev.is {α : Type} {g : Nat → Option α} {r r' : α} (h : Ev g r) (e : r = r') : Ev g r' := e ▸ h
theorem end_stop (s : ByteArray) (u : List UInt8) (b : Int) (x : Bool) (j : Int) (hj : j = u.length) (hx : x = false) :
    Ev (fun k => spec_l7End.j1 k s j b x) (if j = b then -1 else j) := by
  subst hx
  refine Ev.step (f := fun _ => some (if j = b then -1 else j)) (fun k => ?_) (Ev.now _)
  simp only [spec_l7End.j1]
  rw [if_neg (by simp)]
  split <;> rfl
set_option maxHeartbeats 1000000 in
theorem end_reads {e ps r} (h : Reads e ps r) : ∀ (s : ByteArray) (u : List UInt8) (b : Int), L s = u ++ e → s.size ≤ 1000000 → 0 ≤ b → b ≤ u.length →
    Ev (fun k => spec_l7End.l0 k s u.length b) (endv s r b) := by
  induction h with
  | done =>
    intro s u b hs hn hb0 hb
    have hz := size_suffix hs
    refine Ev.step (f := fun k => spec_l7End.j1 k s u.length b false) (fun k => ?_) ?_
    · simp only [spec_l7End.l0]; rw [if_neg (by simp at hz; omega)]
    · refine (end_stop s u b false _ rfl rfl).is ?_
      simp [endv]; simp at hz; rw [hz]
  | letter c e ps r hc h ih =>
    intro s u b hs hn hb0 hb
    have hz := size_suffix hs
    have hbt := bt_suffix hs
    simp at hz
    have h41 : ((bt s u.length) != 41) = true := by rw [hbt]; rcases hc with rfl | rfl <;> decide
    refine Ev.step (f := fun k => spec_l7End.j1 k s u.length b true) (fun k => ?_) ?_
    · simp only [spec_l7End.l0]; rw [if_pos (by omega), if_pos (by omega), h41]
    refine Ev.step (f := fun k => spec_l7End.j2 k s u.length b true) (fun k => ?_) ?_
    · simp only [spec_l7End.j1, if_true]; rw [if_pos (by omega), if_pos (by omega)]
      rcases hc with rfl | rfl
      · rw [if_pos (by rw [hbt]; rfl)]
      · rw [if_neg (by rw [hbt]; decide), show ((bt s u.length) == 98) = true by rw [hbt]; rfl]
    refine Ev.step (f := fun k => spec_l7End.l0 k s (u ++ [c]).length b) (fun k => ?_) ?_
    · simp only [spec_l7End.j2, if_true]; rw [w64 (by omega) (by omega)]; simp
    · exact ih s (u ++ [c]) b (by simp [hs]) hn hb0 (by simp; omega)
  | again e w e2 ps r h1 hw h2 ih1 ih2 =>
    intro s u b hs hn hb0 hb
    have hz := size_suffix hs
    have hbt := bt_suffix hs
    simp at hz
    obtain ⟨v, hv⟩ := h1.suffix
    have hlt := h1.some hw
    have hs1 : L s = (u ++ [40]) ++ e := by simp [hs]
    have hs2 : L s = (u ++ 40 :: v) ++ 41 :: (35 :: e2) := by rw [hs, hv]; simp
    have hs3 : L s = (u ++ 40 :: v ++ [41]) ++ 35 :: e2 := by rw [hs, hv]; simp
    have hs4 : L s = (u ++ 40 :: v ++ [41, 35]) ++ e2 := by rw [hs, hv]; simp
    have b2 := bt_suffix hs2
    have b3 := bt_suffix hs3
    have z2 := size_suffix hs2
    simp at z2 hlt
    have i1 := ih1 s (u ++ [40]) ((u ++ [40]).length) hs1 hn (by omega) (by omega)
    have he : endv s (41 :: 35 :: e2) ((u ++ [40]).length) = ((u ++ 40 :: v).length : Int) := by
      have hvl : 0 < v.length := by rw [hv] at hlt; simp at hlt; omega
      unfold endv; rw [if_pos (by simp), if_neg (by simp; omega)]; simp; omega
    rw [he] at i1
    have h41 : ((bt s u.length) != 41) = true := by rw [hbt]; rfl
    refine Ev.step (f := fun k => spec_l7End.j1 k s u.length b true) (fun k => ?_) ?_
    · simp only [spec_l7End.l0]; rw [if_pos (by omega), if_pos (by omega), h41]
    refine Ev.step (f := fun k => spec_l7End.j2 k s u.length b false) (fun k => ?_) ?_
    · simp only [spec_l7End.j1, if_true]; rw [if_pos (by omega), if_pos (by omega), if_neg (by rw [hbt]; decide), show ((bt s u.length) == 98) = false by rw [hbt]; rfl]
    have hw1 : wrap64 ((u.length : Int) + 1) = ((u ++ [40]).length : Int) := by rw [w64 (by omega) (by omega)]; simp
    refine Ev.step (f := ?f1) (fun k => ?h1) ?k1
    case h1 =>
      simp only [spec_l7End.j2]
      rw [if_neg (by simp), if_pos (by omega), if_pos (by omega), if_pos (by rw [hbt]; rfl), hw1] <;> exact rfl
    refine Ev.bind (a := ((u ++ 40 :: v).length : Int)) (Ev.step (fun k => by simp only [spec_l7End.f]) i1) ?_
    simp only [List.length_append, List.length_cons]
    have i2 := ih2 s (u ++ 40 :: v ++ [41, 35]) b hs4 hn hb0 (by simp; omega)
    refine Ev.congr (fun k => ?_) i2
    have e1 : wrap64 (((u.length + (v.length + 1) : Nat) : Int) + 1) = (((u ++ 40 :: v ++ [41]).length : Nat) : Int) := by rw [w64 (by omega) (by omega)]; simp; omega
    have e2 : wrap64 (((u.length + (v.length + 1) : Nat) : Int) + 2) = (((u ++ 40 :: v ++ [41, 35]).length : Nat) : Int) := by rw [w64 (by omega) (by omega)]; simp; omega
    rw [e1, e2]
    simp only [List.length_append, List.length_cons, List.length_nil] at b2 b3 ⊢
    rw [if_neg (by omega), if_neg (by omega), if_pos (by omega), if_pos (by omega), if_pos (by rw [b2] <;> rfl), if_pos (by omega), if_pos (by omega), if_pos (by rw [b3] <;> rfl)]
  | other c e c1 c2 c3 =>
    intro s u b hs hn hb0 hb
    have hz := size_suffix hs
    have hbt := bt_suffix hs
    simp at hz
    by_cases h41 : c = 41
    · subst h41
      refine Ev.step (f := fun k => spec_l7End.j1 k s u.length b false) (fun k => ?_) ?_
      · simp only [spec_l7End.l0]; rw [if_pos (by omega), if_pos (by omega), show ((bt s u.length) != 41) = false by rw [hbt]; rfl]
      · refine (end_stop s u b false _ rfl rfl).is ?_
        have h2 : (s.size : Int) - ((41 :: e : List UInt8).length : Int) = u.length := by simp only [List.length_cons]; omega
        unfold endv; rw [if_pos (c := (41 :: e : List UInt8) = [] ∨ (41 :: e : List UInt8).head? = some 41) (.inr rfl), h2]
    · refine Ev.step (f := fun k => spec_l7End.j1 k s u.length b true) (fun k => ?_) ?_
      · simp only [spec_l7End.l0]; rw [if_pos (by omega), if_pos (by omega), show ((bt s u.length) != 41) = true by rw [hbt]; simpa using u8_ne h41]
      refine Ev.step (f := fun k => spec_l7End.j2 k s u.length b false) (fun k => ?_) ?_
      · simp only [spec_l7End.j1, if_true]; rw [if_pos (by omega), if_pos (by omega), if_neg (by rw [hbt]; exact u8_ne c1), show ((bt s u.length) == 98) = false by rw [hbt]; simpa using u8_ne c2]
      refine Ev.step (f := fun _ => some (-1)) (fun k => ?_) ((Ev.now _).is ?_)
      · simp only [spec_l7End.j2]; rw [if_neg (by simp), if_pos (by omega), if_pos (by omega), if_neg (by rw [hbt]; exact u8_ne c3)]
      · unfold endv; rw [if_neg (by simp [h41])]
  | bad e w r1 h1 hw ih =>
    intro s u b hs hn hb0 hb
    have hz := size_suffix hs
    have hbt := bt_suffix hs
    simp at hz
    obtain ⟨v, hv⟩ := h1.suffix
    have hs1 : L s = (u ++ [40]) ++ e := by simp [hs]
    have hs2 : L s = (u ++ 40 :: v) ++ r1 := by rw [hs, hv]; simp
    have z2 := size_suffix hs2
    simp at z2
    have i1 := ih s (u ++ [40]) ((u ++ [40]).length) hs1 hn (by omega) (by omega)
    have h41 : ((bt s u.length) != 41) = true := by rw [hbt]; rfl
    refine Ev.step (f := fun k => spec_l7End.j1 k s u.length b true) (fun k => ?_) ?_
    · simp only [spec_l7End.l0]; rw [if_pos (by omega), if_pos (by omega), h41]
    refine Ev.step (f := fun k => spec_l7End.j2 k s u.length b false) (fun k => ?_) ?_
    · simp only [spec_l7End.j1, if_true]; rw [if_pos (by omega), if_pos (by omega), if_neg (by rw [hbt]; decide), show ((bt s u.length) == 98) = false by rw [hbt]; rfl]
    have hw1 : wrap64 ((u.length : Int) + 1) = ((u ++ [40]).length : Int) := by rw [w64 (by omega) (by omega)]; simp
    have hend : endv s (40 :: e) b = -1 := by unfold endv; rw [if_neg (by simp)]
    rw [hend]
    refine Ev.step (f := ?f2) (fun k => ?h2) ?k2
    case h2 =>
      simp only [spec_l7End.j2]
      rw [if_neg (by simp), if_pos (by omega), if_pos (by omega), if_pos (by rw [hbt]; rfl), hw1] <;> exact rfl
    refine Ev.bind (a := endv s r1 ((u ++ [40]).length)) (Ev.step (fun k => by simp only [spec_l7End.f]) i1) ?_
    refine Ev.congr (f := fun _ => some (-1)) (fun k => ?_) (Ev.now _)
    unfold endv
    by_cases hr : r1 = [] ∨ r1.head? = some 41
    · rw [if_pos hr]
      by_cases hb1 : (s.size : Int) - r1.length = ((u ++ [40]).length : Int)
      · rw [if_pos hb1, if_pos (by omega)]
      · rw [if_neg hb1, if_neg (by omega)]
        have e1 : wrap64 ((s.size : Int) - r1.length + 1) = (s.size : Int) - r1.length + 1 := w64 (by omega) (by omega)
        rw [e1]
        rcases hr with rfl | hr
        · rw [if_pos (by simp; omega)]
        · cases r1 with
          | nil => simp at hr
          | cons c r2 =>
            simp at hr; subst hr
            cases r2 with
            | nil => rw [if_pos (by simp)]
            | cons c2 r3 =>
              have hs3 : L s = (u ++ 40 :: v ++ [41]) ++ c2 :: r3 := by rw [hs2]; simp
              have b2 := bt_suffix hs2
              have b3 := bt_suffix hs3
              simp at z2 b2 b3
              have hj : (s.size : Int) - ((41 :: c2 :: r3 : List UInt8).length : Int) = (u.length : Int) + (v.length + 1) := by simp; omega
              have hwn : w ≠ [] := by
                rintro rfl
                have := h1.none
                apply hb1
                have hl : e.length = r3.length + 2 := by rw [← this]; simp
                simp; omega
              have hc : c2 ≠ 35 := by
                rintro rfl
                rcases hw with h | h
                · exact hwn h
                · exact h r3 rfl
              rw [hj, if_neg (by omega), if_pos (by omega), if_pos (by omega), if_pos (by rw [b2] <;> rfl), if_pos (by omega), if_pos (by omega), if_neg (by rw [show (u.length : Int) + (v.length + 1) + 1 = u.length + (v.length + 1 + 1) by omega, b3]; exact u8_ne hc)]
    · rw [if_neg hr, if_pos (by omega)]

end Go.Proofs.Ytengegdaiphfeaa.Y
