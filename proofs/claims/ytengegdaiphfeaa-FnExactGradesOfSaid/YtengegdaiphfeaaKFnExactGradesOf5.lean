import Derived.Test.YtengegdaiphfeaaKFnExactGradesOf1
import Derived.Test.YtengegdaiphfeaaKFnExactGradesOf4
import Derived.Test.YtengegdaiphfeaaKFnExactGradesOf2
import Derived.Test.YtengegdaiphfeaaKFnExactGradesOf3
section
namespace Go.Proofs.Ytengegdaiphfeaa.Y
open Go.RowKit Go.Proofs.Ytengegdaiphfeaa.X Go.Proofs.YtengegdaiphfeaaW.PrintWords Go.Proofs.YtengegdaiphfeaaW.PrintLast Go.Proofs.YtengegdaiphfeaaW.PrintMore
set_option linter.unusedVariables false
set_option linter.unusedSimpArgs false
def okCost (x : Int) : Bool := decide (0 ≤ x ∧ x ≤ 1000000)
def MV (n : Int) (l : List Int) : Prop := 1 ≤ n ∧ n ≤ 4 ∧ (l.length : Int) = n * n ∧ ∀ x ∈ l, 0 ≤ x ∧ x ≤ 1000000
def GV (n : Int) (l : List Int) : Prop := MV n l ∧ ∀ x ∈ l, x ≤ 3
instance (n : Int) (l : List Int) : Decidable (MV n l) := by unfold MV; infer_instance
instance (n : Int) (l : List Int) : Decidable (GV n l) := by unfold GV; infer_instance
theorem icost (a : Int) : impl_CostValid.f a = some (okCost a) := by
  unfold impl_CostValid.f okCost
  by_cases h : a ≥ 0
  · rw [if_pos h]; by_cases h2 : a ≤ 1000000 <;> simp [h2] <;> omega
  · rw [if_neg h]; simp; omega
theorem scost (a : Int) : spec_CostValid.f a = some (okCost a) := by
  unfold spec_CostValid.f spec_l1In.f okCost
  by_cases h : a ≥ 0
  · rw [if_pos h]; by_cases h2 : a ≤ 1000000 <;> simp [h2] <;> omega
  · rw [if_neg h]; simp; omega
theorem sIn (a lo hi : Int) : spec_l1In.f a lo hi = some (decide (lo ≤ a ∧ a ≤ hi)) := by
  unfold spec_l1In.f
  by_cases h : a ≥ lo
  · rw [if_pos h]; by_cases h2 : a ≤ hi <;> simp [h2] <;> omega
  · rw [if_neg h]; simp; omega
theorem index_ev (q : Int → Bool) (p : Int → Option Bool) (hp : ∀ x, p x = some (q x)) (l : List Int) (h : l.length ≤ maxLen) :
    Ev (fun k => slices_ContainsFunc_int_int.f p k l) (l.any q) := by
  rw [maxLen_eq] at h
  have go : ∀ (t pre : List Int), l = pre ++ t → ∃ z : Int, Ev (fun k => slices_IndexFunc_int_int.l0 p k l (l.length : Int) (pre.length : Int)) z ∧ decide (z ≥ 0) = t.any q := by
    intro t
    induction t with
    | nil =>
      intro pre hl
      refine ⟨-1, ?_, rfl⟩
      refine Ev.step (f := fun _ => some (-1)) (fun k => ?_) (Ev.now _)
      simp only [slices_IndexFunc_int_int.l0]
      rw [if_neg (by rw [hl]; simp)]
    | cons x t ih =>
      intro pre hl
      have hlen : l.length = pre.length + (t.length + 1) := by rw [hl]; simp
      have hx : rd l (pre.length : Int) = x := by rw [hl, rd_mid]
      cases hq : q x with
      | true =>
        refine ⟨pre.length, ?_, by simp [hq]⟩
        refine Ev.step (f := fun _ => some (pre.length : Int)) (fun k => ?_) (Ev.now _)
        simp only [slices_IndexFunc_int_int.l0]
        rw [if_pos (by omega), if_pos (by omega), if_pos (by omega), hx, hp, hq, Option.bind_some, if_pos rfl]
      | false =>
        obtain ⟨z, hz, hd⟩ := ih (pre ++ [x]) (by simp [hl])
        refine ⟨z, ?_, by simp [hq, hd]⟩
        refine Ev.step (fun k => ?_) hz
        simp only [slices_IndexFunc_int_int.l0]
        rw [if_pos (by omega), if_pos (by omega), if_pos (by omega), hx, hp, hq, Option.bind_some, if_neg (by simp), w64 (by omega) (by omega), snoc_len]
  obtain ⟨z, hz, hd⟩ := go l [] rfl
  refine Ev.congr (f := ?f1) (fun k => ?h1) ?k1
  case h1 => unfold slices_ContainsFunc_int_int.f slices_IndexFunc_int_int.f; exact rfl
  exact Ev.bind hz (Ev.congr (f := fun _ => some (l.any q)) (fun k => by rw [hd]) (Ev.now _))
theorem iMV (n : Int) (l : List Int) (hl : l.length ≤ maxLen) : Ev (fun k => impl_MatrixValid.f k n l) (decide (MV n l)) := by
  have no : ∀ f : Nat → Option Bool, (∀ k, f k = some false) → ¬ MV n l → Ev f (decide (MV n l)) := fun f h h2 => (ev_some h).is (by rw [decide_eq_false h2])
  by_cases h1 : n < 1
  · exact no _ (fun k => by unfold impl_MatrixValid.f; rw [if_pos h1]) (fun h => by unfold MV at h; omega)
  by_cases h2 : n > 4
  · exact no _ (fun k => by unfold impl_MatrixValid.f; rw [if_neg h1, if_pos h2]) (fun h => by unfold MV at h; omega)
  have hnn : 0 ≤ n * n ∧ n * n ≤ 16 := by
    have : n = 1 ∨ n = 2 ∨ n = 3 ∨ n = 4 := by omega
    rcases this with rfl | rfl | rfl | rfl <;> omega
  by_cases h3 : (l.length : Int) = wrap64 (n * n)
  · rw [w64 (by omega) (by omega)] at h3
    refine Ev.congr (f := ?f2) (fun k => ?h2) ?k2
    case h2 => unfold impl_MatrixValid.f; rw [if_neg h1, if_neg h2, w64 (x := n * n) (by omega) (by omega), if_pos h3] <;> exact rfl
    have hq : ∀ x, impl_MatrixValid_1.f x = some (!(okCost x)) := fun x => by unfold impl_MatrixValid_1.f; rw [icost]; rfl
    refine Ev.bind (index_ev (fun x => !(okCost x)) _ hq l hl) ?_
    refine (ev_some (fun k => rfl)).is ?_
    rw [Bool.eq_iff_iff]
    simp only [Bool.not_eq_true', List.any_eq_false, Bool.not_eq_true', Bool.not_eq_false, decide_eq_true_eq]
    constructor
    · intro h; exact ⟨by omega, by omega, h3, fun x hx => by simpa [okCost] using h x hx⟩
    · intro h x hx; simpa [okCost] using h.2.2.2 x hx
  · refine no _ (fun k => by unfold impl_MatrixValid.f; rw [if_neg h1, if_neg h2, if_neg h3]) (fun h => ?_)
    rw [w64 (by omega) (by omega)] at h3
    exact h3 h.2.2.1
theorem iGV (n : Int) (l : List Int) (hl : l.length ≤ maxLen) : Ev (fun k => impl_GradesValid.f k n l) (decide (GV n l)) := by
  refine Ev.congr (f := ?f3) (fun k => ?h3) ?k3
  case h3 => unfold impl_GradesValid.f; exact rfl
  refine Ev.bind (iMV n l hl) ?_
  by_cases h : MV n l
  · refine Ev.congr (f := ?f4) (fun k => ?h4) ?k4
    case h4 => rw [decide_eq_true h, if_pos rfl] <;> exact rfl
    refine Ev.bind (index_ev (fun x => decide (x > 3)) _ (fun x => rfl) l hl) ?_
    refine (ev_some (fun k => rfl)).is ?_
    rw [Bool.eq_iff_iff]
    simp only [Bool.not_eq_true', List.any_eq_false, decide_eq_true_eq]
    exact ⟨fun g => ⟨h, fun x hx => by have := g x hx; omega⟩, fun g x hx => by have := g.2 x hx; omega⟩
  · refine (ev_some (fun k => ?_)).is (by rw [decide_eq_false (fun g : GV n l => h g.1)])
    rw [decide_eq_false h]; rfl
theorem sAll_ev (l : List Int) (h : l.length ≤ maxLen) : Ev (fun k => spec_l1All.f k l) (l.all okCost) := by
  rw [maxLen_eq] at h
  have go : ∀ (t pre : List Int), l = pre ++ t → Ev (fun k => spec_l1All.l0 k l (l.length : Int) (pre.length : Int)) (t.all okCost) := by
    intro t
    induction t with
    | nil =>
      intro pre hl
      refine Ev.step (f := fun _ => some true) (fun k => ?_) (Ev.now _)
      simp only [spec_l1All.l0]; rw [if_neg (by rw [hl]; simp)]
    | cons x t ih =>
      intro pre hl
      have hlen : l.length = pre.length + (t.length + 1) := by rw [hl]; simp
      have hx : rd l (pre.length : Int) = x := by rw [hl, rd_mid]
      cases hq : okCost x with
      | true =>
        refine Ev.step (fun k => ?_) ((ih (pre ++ [x]) (by simp [hl])).is (by simp [hq]))
        simp only [spec_l1All.l0]
        rw [if_pos (by omega), if_pos (by omega), if_pos (by omega), hx, scost, hq, Option.bind_some, if_pos rfl, w64 (by omega) (by omega), snoc_len]
      | false =>
        refine Ev.step (f := fun _ => some false) (fun k => ?_) ((Ev.now _).is (by simp [hq]))
        simp only [spec_l1All.l0]
        rw [if_pos (by omega), if_pos (by omega), if_pos (by omega), hx, scost, hq, Option.bind_some, if_neg (by simp)]
  exact go l [] rfl
theorem sMV (n : Int) (l : List Int) (hl : l.length ≤ maxLen) : Ev (fun k => spec_MatrixValid.f k n l) (decide (MV n l)) := by
  have no : ∀ f : Nat → Option Bool, (∀ k, f k = some false) → ¬ MV n l → Ev f (decide (MV n l)) := fun f h h2 => (ev_some h).is (by rw [decide_eq_false h2])
  by_cases h1 : 1 ≤ n ∧ n ≤ 4
  · have hnn : 0 ≤ n * n ∧ n * n ≤ 16 := by
      have : n = 1 ∨ n = 2 ∨ n = 3 ∨ n = 4 := by omega
      rcases this with rfl | rfl | rfl | rfl <;> omega
    by_cases h3 : (l.length : Int) = n * n
    · refine Ev.congr (f := ?f5) (fun k => ?h5) ?k5
      case h5 => unfold spec_MatrixValid.f; rw [sIn, decide_eq_true h1, Option.bind_some, if_pos rfl, w64 (x := n * n) (by omega) (by omega), if_pos h3] <;> exact rfl
      refine Ev.bind (sAll_ev l hl) ((ev_some (fun k => rfl)).is ?_)
      rw [Bool.eq_iff_iff]
      simp only [List.all_eq_true, decide_eq_true_eq]
      exact ⟨fun g => ⟨h1.1, h1.2, h3, fun x hx => by simpa [okCost] using g x hx⟩, fun g x hx => by simpa [okCost] using g.2.2.2 x hx⟩
    · exact no _ (fun k => by unfold spec_MatrixValid.f; rw [sIn, decide_eq_true h1, Option.bind_some, if_pos rfl, w64 (x := n * n) (by omega) (by omega), if_neg h3]) (fun h => h3 h.2.2.1)
  · exact no _ (fun k => by unfold spec_MatrixValid.f; rw [sIn, decide_eq_false h1]; rfl) (fun h => h1 ⟨h.1, h.2.1⟩)
theorem sGV (n : Int) (l : List Int) (hl : l.length ≤ maxLen) : Ev (fun k => spec_GradesValid.f k n l) (decide (GV n l)) := by
  have hm := hl
  rw [maxLen_eq] at hm
  have go : ∀ (t pre : List Int), l = pre ++ t → Ev (fun k => spec_GradesValid.l0 k l (l.length : Int) (pre.length : Int) n l) (decide ((∀ x ∈ t, 0 ≤ x ∧ x ≤ 3) ∧ MV n l)) := by
    intro t
    induction t with
    | nil =>
      intro pre hp
      refine Ev.step (f := ?f6) (fun k => ?h6) ?k6
      case h6 => simp only [spec_GradesValid.l0]; rw [if_neg (by rw [hp]; simp)] <;> exact rfl
      exact Ev.bind (sMV n l hl) ((ev_some (fun k => rfl)).is (by simp))
    | cons x t ih =>
      intro pre hp
      have hlen : l.length = pre.length + (t.length + 1) := by rw [hp]; simp
      have hx : rd l (pre.length : Int) = x := by rw [hp, rd_mid]
      by_cases hq : 0 ≤ x ∧ x ≤ 3
      · refine Ev.step (fun k => ?_) ((ih (pre ++ [x]) (by simp [hp])).is ?_)
        · simp only [spec_GradesValid.l0]
          rw [if_pos (by omega), if_pos (by omega), if_pos (by omega), hx, sIn, decide_eq_true hq, Option.bind_some, if_pos rfl, w64 (by omega) (by omega), snoc_len]
        · simp [hq.1, hq.2]
      · refine Ev.step (f := fun _ => some false) (fun k => ?_) ((Ev.now _).is ?_)
        · simp only [spec_GradesValid.l0]
          rw [if_pos (by omega), if_pos (by omega), if_pos (by omega), hx, sIn, decide_eq_false hq, Option.bind_some, if_neg (by simp)]
        · symm; rw [decide_eq_false_iff_not]; intro h; exact hq (h.1 x (by simp))
  refine (go l [] rfl).is ?_
  rw [Bool.eq_iff_iff]
  simp only [decide_eq_true_eq]
  exact ⟨fun h => ⟨h.2, fun x hx => (h.1 x hx).2⟩, fun h => ⟨fun x hx => ⟨(h.1.2.2.2 x hx).1, h.2 x hx⟩, h.1⟩⟩
end Go.Proofs.Ytengegdaiphfeaa.Y
end
section
namespace Go.Proofs.Ytengegdaiphfeaa.Y
open Go.RowKit Go.Proofs.Ytengegdaiphfeaa.X Go.Proofs.YtengegdaiphfeaaW.PrintWords Go.Proofs.YtengegdaiphfeaaW.PrintLast Go.Proofs.YtengegdaiphfeaaW.PrintMore
set_option linter.unusedVariables false
set_option linter.unusedSimpArgs false
theorem div_mod_at (n i k : Nat) (hk : k < n) : (i * n + k) / n = i ∧ (i * n + k) % n = k := by
  have hn : 0 < n := by omega
  constructor
  · rw [Nat.mul_comm, Nat.mul_add_div hn, Nat.div_eq_of_lt hk, Nat.add_zero]
  · rw [Nat.mul_comm, Nat.mul_add_mod, Nat.mod_eq_of_lt hk]
theorem cell_lt (n i k : Nat) (hi : i < n) (hk : k < n) : i * n + k < n * n := by
  have : (i + 1) * n ≤ n * n := Nat.mul_le_mul_right n hi
  rw [Nat.succ_mul] at this
  omega
theorem sq_le (n : Nat) (h : n ≤ 4) : n * n ≤ 16 := by
  have := Nat.mul_le_mul h h
  omega
theorem row_le (n i : Nat) (hn : n ≤ 4) (hi : i ≤ n) : i * n ≤ 16 := by
  have := Nat.mul_le_mul (Nat.le_trans hi hn) hn
  omega
def cutF (n : Nat) (g : Nat → Nat → Int) : Int → Int → Option Int := fun i k => if 0 ≤ i ∧ i < n ∧ 0 ≤ k ∧ k < n then some (g i.toNat k.toNat) else none
theorem cutF_at (n : Nat) (g : Nat → Nat → Int) (i k : Nat) (hi : i < n) (hk : k < n) : cutF n g (i : Int) (k : Int) = some (g i k) := by
  unfold cutF; rw [if_pos (by omega)]; simp
def sqL (n : Nat) (g : Nat → Nat → Int) : List Int := tab (n * n) (fun m => g (m / n) (m % n))
theorem sqL_get (n : Nat) (g : Nat → Nat → Int) (i k : Nat) (hi : i < n) (hk : k < n) : (sqL n g).getD (i * n + k) 0 = g i k := by
  unfold sqL
  rw [tab_get _ _ _ (cell_lt n i k hi hk)]
  obtain ⟨h1, h2⟩ := div_mod_at n i k hk
  rw [h1, h2]
theorem sqL_congr (n : Nat) (g h : Nat → Nat → Int) (e : ∀ i k, i < n → k < n → g i k = h i k) : sqL n g = sqL n h := by
  refine tab_congr _ _ _ (fun j hj => e _ _ (Nat.div_lt_of_lt_mul hj) (Nat.mod_lt _ ?_))
  rcases n with _ | n
  · simp at hj
  · omega
theorem eq_sqL (n : Nat) (l : List Int) (h : l.length = n * n) : l = sqL n (fun i k => l.getD (i * n + k) 0) := by
  refine (eq_tab l _ h).trans (tab_congr _ _ _ (fun j _ => ?_))
  show l.getD j 0 = l.getD (j / n * n + j % n) 0
  rw [Nat.mul_comm, Nat.div_add_mod]
theorem filled_cut (n : Nat) (hn : n ≤ 4) (g : Nat → Nat → Int) : Ev (fun j => impl_filled.f (cutF n g) j (n : Int)) ((n : Int), sqL n g) := by
  have inner : ∀ (i : Nat) (r : Int × List Int), i < n → Ev (fun j => impl_filled.l0 (cutF n g) j n n ((i + 1 : Nat) : Int) n (tab ((i + 1) * n) (fun m => g (m / n) (m % n)))) r →
      Ev (fun j => impl_filled.l0 (cutF n g) j n n (i : Int) n (tab (i * n) (fun m => g (m / n) (m % n)))) r := by
    intro i r hi h
    refine Ev.step (f := fun j => impl_filled.l1 (cutF n g) j n i n i n ((0 : Nat) : Int) n (tab (i * n + 0) (fun m => g (m / n) (m % n)))) (fun k => ?_) ?_
    · simp only [impl_filled.l0]; rw [if_pos (by omega)]; rfl
    refine up_loop n (fun k j => impl_filled.l1 (cutF n g) j n i n i n (k : Int) n (tab (i * n + k) (fun m => g (m / n) (m % n)))) r (fun k hk hs => ?_) ?_
    · refine Ev.step (fun j => ?_) hs
      simp only [impl_filled.l1]
      have hr := row_le n i hn (by omega)
      obtain ⟨h1, h2⟩ := div_mod_at n i k hk
      rw [if_pos (by omega), cutF_at n g i k hi hk, Option.bind_some, tab_length, if_pos (by omega), w64 (by omega) (by omega)]
      have e : tab (i * n + k) (fun m => g (m / n) (m % n)) ++ [g i k] = tab (i * n + (k + 1)) (fun m => g (m / n) (m % n)) := by
        rw [← Nat.add_assoc, ← tab_snoc, h1, h2]
      rw [e]; rfl
    · refine Ev.step (fun j => ?_) h
      simp only [impl_filled.l1]
      rw [if_neg (by omega), w64 (by omega) (by omega), Nat.succ_mul]; rfl
  refine Ev.congr (f := fun j => impl_filled.l0 (cutF n g) j n n ((0 : Nat) : Int) n (tab (0 * n) (fun m => g (m / n) (m % n)))) (fun k => ?_) ?_
  · unfold impl_filled.f; simp [tab]
  refine up_loop n (fun i j => impl_filled.l0 (cutF n g) j n n (i : Int) n (tab (i * n) (fun m => g (m / n) (m % n)))) _ (fun i hi hs => inner i _ hi hs) ?_
  refine Ev.step (f := fun _ => some ((n : Int), sqL n g)) (fun j => ?_) (Ev.now _)
  simp only [impl_filled.l0]
  rw [if_neg (by omega)]; rfl
theorem filled_ev (n : Nat) (hn : n ≤ 4) (g : Nat → Nat → Int) (p : Nat → Int → Int → Option Int) (h : ∀ i, i < n → ∀ k, k < n → Ev (fun K => p K (i : Int) (k : Int)) (g i k)) :
    Ev (fun K => impl_filled.f (p K) K (n : Int)) ((n : Int), sqL n g) := by
  have h2 : ∀ i, i < n → ∃ K0, ∀ K, K0 ≤ K → ∀ k, k < n → p K (i : Int) (k : Int) = some (g i k) := fun i hi => ev_all n (fun k hk => h i hi k hk)
  have h3 : ∃ K0, ∀ K, K0 ≤ K → ∀ i, i < n → ∀ k, k < n → p K (i : Int) (k : Int) = some (g i k) := by
    have : ∀ m, m ≤ n → ∃ K0, ∀ K, K0 ≤ K → ∀ i, i < m → ∀ k, k < n → p K (i : Int) (k : Int) = some (g i k) := by
      intro m
      induction m with
      | zero => intro _; exact ⟨0, fun _ _ i hi => by omega⟩
      | succ m ih =>
        intro hm
        obtain ⟨a, ha⟩ := ih (by omega)
        obtain ⟨b, hb⟩ := h2 m (by omega)
        refine ⟨max a b, fun K hK i hi k hk => ?_⟩
        by_cases e : i = m
        · subst e; exact hb K (by omega) k hk
        · exact ha K (by omega) i (by omega) k hk
    exact this n (Nat.le_refl _)
  obtain ⟨K0, hK0⟩ := h3
  refine ev_up (f := fun j => impl_filled.f (cutF n g) j (n : Int)) (p := fun K j => impl_filled.f (p K) j (n : Int)) (filled_cut n hn g) ⟨K0, fun K hK j => ?_⟩ (fun K j => impl_filled.mono (p K) _ j)
  refine impl_filled.monoP (fun y0 y1 r hr => ?_) _ j
  unfold cutF at hr
  by_cases hc : 0 ≤ y0 ∧ y0 < n ∧ 0 ≤ y1 ∧ y1 < n
  · rw [if_pos hc] at hr
    have e0 : ((y0.toNat : Nat) : Int) = y0 := by omega
    have e1 : ((y1.toNat : Nat) : Int) = y1 := by omega
    have := hK0 K hK y0.toNat (by omega) y1.toNat (by omega)
    rw [e0, e1] at this
    rw [this]; exact hr
  · rw [if_neg hc] at hr; cases hr
theorem at_eq (n : Nat) (hn : n ≤ 4) (l : List Int) (hl : l.length = n * n) (i k : Nat) (hi : i < n) (hk : k < n) : impl_Matrix_at.f (n : Int) l (i : Int) (k : Int) = some (l.getD (i * n + k) 0) := by
  have hc := cell_lt n i k hi hk
  have hr := row_le n i hn (by omega)
  have e : wrap64 (wrap64 ((i : Int) * (n : Int)) + k) = ((i * n + k : Nat) : Int) := by
    have : (i : Int) * (n : Int) = ((i * n : Nat) : Int) := by simp
    rw [this, w64 (x := ((i * n : Nat) : Int)) (by omega) (by omega), w64 (by omega) (by omega)]; simp
  unfold impl_Matrix_at.f
  rw [e, if_pos (by omega), if_pos (by omega), rd_nat]
def mulE (n : Nat) (a b : List Int) (i k : Nat) : Int := (List.range n).foldl (fun acc l => mn acc (mx (a.getD (i * n + l) 0) (b.getD (l * n + k) 0))) 3
def mulL (n : Nat) (a b : List Int) : List Int := sqL n (mulE n a b)
theorem mulL_length (n : Nat) (a b : List Int) : (mulL n a b).length = n * n := by simp [mulL, sqL, tab_length]
theorem iMulCell (n : Nat) (hn : n ≤ 4) (a b : List Int) (ha : a.length = n * n) (hb : b.length = n * n) (i k : Nat) (hi : i < n) (hk : k < n) :
    Ev (fun K => impl_MulGrades_1.f K (i : Int) (k : Int) (n : Int) a (n : Int) b) (mulE n a b i k) := by
  refine up_loop n (fun l K => impl_MulGrades_1.l0 K i k ((List.range l).foldl (fun acc l => mn acc (mx (a.getD (i * n + l) 0) (b.getD (l * n + k) 0))) 3) n (l : Int) n a n b) _ (fun l hl hs => ?_) ?_
  · refine Ev.step (fun j => ?_) hs
    simp only [impl_MulGrades_1.l0]
    rw [if_pos (by omega), at_eq n hn a ha i l hi hl, Option.bind_some, at_eq n hn b hb l k hl hk, Option.bind_some, w64 (by omega) (by omega), fold_snoc]; rfl
  · refine Ev.step (f := fun _ => some (mulE n a b i k)) (fun j => ?_) (Ev.now _)
    simp only [impl_MulGrades_1.l0]
    rw [if_neg (by omega)]; rfl
theorem GV_len {n : Nat} {l : List Int} (h : GV (n : Int) l) : l.length = n * n := by
  have := h.1.2.2.1
  exact_mod_cast this
theorem GV_le {n : Nat} {l : List Int} (h : GV (n : Int) l) : n ≤ 4 ∧ 1 ≤ n := by
  have h1 := h.1.1
  have h2 := h.1.2.1
  omega
theorem GV_nat {n : Int} {l : List Int} (h : GV n l) : ∃ m : Nat, n = (m : Int) := ⟨n.toNat, by have := h.1.1; omega⟩
theorem iMul (n : Nat) (a b : List Int) (ha : GV n a) (hb : GV n b) : Ev (fun k => impl_MulGrades.f k n a n b) ((n : Int), mulL n a b, true) := by
  have hn := (GV_le ha).1
  have hla := GV_len ha
  have hlb := GV_len hb
  have hs := sq_le n hn
  have hm : ∀ l : List Int, l.length = n * n → l.length ≤ maxLen := fun l h => by rw [maxLen_eq]; omega
  refine Ev.congr (f := ?f1) (fun k => ?h1) ?k1
  case h1 => unfold impl_MulGrades.f; exact rfl
  refine Ev.bind (iGV n a (hm a hla)) ?_
  refine Ev.congr (f := ?f2) (fun k => ?h2) ?k2
  case h2 => rw [decide_eq_true ha, if_pos rfl] <;> exact rfl
  refine Ev.bind (iGV n b (hm b hlb)) ?_
  refine Ev.congr (f := ?f3) (fun k => ?h3) ?k3
  case h3 => rw [decide_eq_true hb, if_pos rfl, if_pos rfl] <;> exact rfl
  refine Ev.bind (a := ((n : Int), mulL n a b)) ?_ (Ev.now _)
  exact filled_ev n hn (mulE n a b) (fun K y0 y1 => impl_MulGrades_1.f K y0 y1 n a n b) (fun i hi k hk => iMulCell n hn a b hla hlb i k hi hk)
def mulR (n : Int) (a : List Int) (m : Int) (b : List Int) : Int × List Int × Bool := if GV n a ∧ GV m b ∧ n = m then (n, mulL n.toNat a b, true) else (0, [], false)
theorem iMul_any (n : Int) (a : List Int) (m : Int) (b : List Int) (ha : a.length ≤ maxLen) (hb : b.length ≤ maxLen) : Ev (fun k => impl_MulGrades.f k n a m b) (mulR n a m b) := by
  by_cases h : GV n a ∧ GV m b ∧ n = m
  · obtain ⟨h1, h2, rfl⟩ := h
    obtain ⟨z, rfl⟩ := GV_nat h1
    refine (iMul z a b h1 h2).is ?_
    unfold mulR; rw [if_pos ⟨h1, h2, rfl⟩]; rfl
  · have hr : mulR n a m b = (0, [], false) := by unfold mulR; rw [if_neg h]
    rw [hr]
    refine Ev.congr (f := ?f4) (fun k => ?h4) ?k4
    case h4 => unfold impl_MulGrades.f; exact rfl
    refine Ev.bind (iGV n a ha) ?_
    by_cases h1 : GV n a
    · refine Ev.congr (f := ?f5) (fun k => ?h5) ?k5
      case h5 => rw [decide_eq_true h1, if_pos rfl] <;> exact rfl
      refine Ev.bind (iGV m b hb) ?_
      by_cases h2 : GV m b
      · exact ev_some (fun k => by rw [decide_eq_true h2, if_pos rfl, if_neg (fun e => h ⟨h1, h2, e⟩)])
      · exact ev_some (fun k => by rw [decide_eq_false h2]; rfl)
    · exact ev_some (fun k => by rw [decide_eq_false h1]; rfl)
theorem tdiv_nat (m n : Nat) : Int.tdiv (m : Int) (n : Int) = ((m / n : Nat) : Int) := by rw [Int.tdiv_eq_ediv_of_nonneg (by omega)]; simp
theorem tmod_nat (m n : Nat) : Int.tmod (m : Int) (n : Int) = ((m % n : Nat) : Int) := by rw [Int.tmod_eq_emod_of_nonneg (by omega)]; simp
theorem idx1 (n m l : Nat) (hn : n ≤ 4) (hi : m / n < n) (hl : l < n) : wrap64 (wrap64 (wrap64 (Int.tdiv (m : Int) (n : Int)) * (n : Int)) + l) = ((m / n * n + l : Nat) : Int) := by
  have r1 := row_le n (m / n) hn (by omega)
  rw [tdiv_nat]
  obtain ⟨q, hq⟩ : ∃ q : Nat, m / n = q := ⟨_, rfl⟩
  rw [hq] at hi r1 ⊢
  have h1 : ((q : Nat) : Int) * (n : Int) = ((q * n : Nat) : Int) := by simp
  obtain ⟨s, hs⟩ : ∃ s : Nat, q * n = s := ⟨_, rfl⟩
  rw [w64 (x := ((q : Nat) : Int)) (by omega) (by omega), h1]
  rw [hs] at r1 ⊢
  clear h1 hs hq
  rw [w64 (x := ((s : Nat) : Int)) (by omega) (by omega), w64 (by omega) (by omega)]; simp
theorem idx2 (n m l : Nat) (hn : n ≤ 4) (hk : m % n < n) (hl : l < n) : wrap64 (wrap64 ((l : Int) * (n : Int)) + Int.tmod (m : Int) (n : Int)) = ((l * n + m % n : Nat) : Int) := by
  have r2 := row_le n l hn (by omega)
  rw [tmod_nat]
  obtain ⟨q, hq⟩ : ∃ q : Nat, m % n = q := ⟨_, rfl⟩
  rw [hq] at hk ⊢
  have h1 : (l : Int) * (n : Int) = ((l * n : Nat) : Int) := by simp
  obtain ⟨s, hs⟩ : ∃ s : Nat, l * n = s := ⟨_, rfl⟩
  rw [h1]
  rw [hs] at r2 ⊢
  clear h1 hs hq
  rw [w64 (x := ((s : Nat) : Int)) (by omega) (by omega), w64 (by omega) (by omega)]; simp
theorem sMul (n : Nat) (hn : n ≤ 4) (h0 : 1 ≤ n) (a b : List Int) (hla : a.length = n * n) (hlb : b.length = n * n) : Ev (fun k => spec_l6Mul.f k n a n b) ((n : Int), mulL n a b) := by
  have hs := sq_le n hn
  have e0 : wrap64 ((n : Int) * (n : Int)) = ((n * n : Nat) : Int) := by
    have : (n : Int) * (n : Int) = ((n * n : Nat) : Int) := by simp
    rw [this, w64 (by omega) (by omega)]
  refine Ev.congr (f := fun k => spec_l6Mul.l0 k ((n * n : Nat) : Int) ((0 : Nat) : Int) n a n b n (tab 0 (fun m => mulE n a b (m / n) (m % n)))) (fun k => ?_) ?_
  · unfold spec_l6Mul.f; rw [e0]; simp [tab]
  refine up_loop (n * n) (fun m k => spec_l6Mul.l0 k ((n * n : Nat) : Int) (m : Int) n a n b n (tab m (fun m => mulE n a b (m / n) (m % n)))) _ (fun m hm hnext => ?_) ?_
  · have hi : m / n < n := Nat.div_lt_of_lt_mul hm
    have hk : m % n < n := Nat.mod_lt _ (by omega)
    refine Ev.step (f := fun k => spec_l6Mul.l1 k m ((List.range 0).foldl (fun acc l => mn acc (mx (a.getD (m / n * n + l) 0) (b.getD (l * n + m % n) 0))) 3) ((n * n : Nat) : Int) m n ((0 : Nat) : Int) n a n b n (tab m (fun m => mulE n a b (m / n) (m % n)))) (fun k => ?_) ?_
    · simp only [spec_l6Mul.l0]; rw [if_pos (by omega)]; rfl
    refine up_loop n (fun l k => spec_l6Mul.l1 k m ((List.range l).foldl (fun acc l => mn acc (mx (a.getD (m / n * n + l) 0) (b.getD (l * n + m % n) 0))) 3) ((n * n : Nat) : Int) m n (l : Int) n a n b n (tab m (fun m => mulE n a b (m / n) (m % n)))) _ (fun l hl hs2 => ?_) ?_
    · refine Ev.step (fun j => ?_) hs2
      have c1 := cell_lt n (m / n) l hi hl
      have c2 := cell_lt n l (m % n) hl hk
      have r1 := row_le n (m / n) hn (by omega)
      have r2 := row_le n l hn (by omega)
      have hA : (l : Int) < (n : Int) := by omega
      have hB : ¬ (n : Int) = 0 := by omega
      have hC : (((m / n * n + l : Nat)) : Int) < (a.length : Int) := by rw [hla]; exact_mod_cast c1
      have hD : (((l * n + m % n : Nat)) : Int) < (b.length : Int) := by rw [hlb]; exact_mod_cast c2
      have hE : wrap64 ((l : Int) + 1) = ((l + 1 : Nat) : Int) := by rw [w64 (by omega) (by omega)]; rfl
      have e1 := idx1 n m l hn hi hl
      have e2 := idx2 n m l hn hk hl
      simp only [spec_l6Mul.l1]
      rw [if_pos hA, if_neg hB, e1, e2, if_pos (Int.natCast_nonneg _), if_pos hC, if_pos (Int.natCast_nonneg _), if_pos hD, rd_nat, rd_nat, hE, fold_snoc]
    · refine Ev.step (fun j => ?_) hnext
      simp only [spec_l6Mul.l1]
      rw [if_neg (by omega), tab_length, if_pos (by omega), w64 (by omega) (by omega)]
      have e : tab m (fun m => mulE n a b (m / n) (m % n)) ++ [mulE n a b (m / n) (m % n)] = tab (m + 1) (fun m => mulE n a b (m / n) (m % n)) := tab_snoc m (fun m => mulE n a b (m / n) (m % n))
      show spec_l6Mul.l0 j _ _ _ _ _ _ _ (tab m (fun m => mulE n a b (m / n) (m % n)) ++ [mulE n a b (m / n) (m % n)]) = _
      rw [e]; rfl
  · refine Ev.step (f := fun _ => some ((n : Int), mulL n a b)) (fun j => ?_) (Ev.now _)
    simp only [spec_l6Mul.l0]
    rw [if_neg (by omega)]; rfl
theorem sMul_any (n : Int) (a : List Int) (m : Int) (b : List Int) (ha : a.length ≤ maxLen) (hb : b.length ≤ maxLen) : Ev (fun k => spec_MulGrades.f k n a m b) (mulR n a m b) := by
  refine Ev.congr (f := ?f6) (fun k => ?h6) ?k6
  case h6 => unfold spec_MulGrades.f; exact rfl
  refine Ev.bind (sGV n a ha) ?_
  by_cases h1 : GV n a
  · refine Ev.congr (f := ?f7) (fun k => ?h7) ?k7
    case h7 => rw [decide_eq_true h1, if_pos rfl] <;> exact rfl
    refine Ev.bind (sGV m b hb) ?_
    by_cases h2 : GV m b
    · by_cases e : n = m
      · subst e
        obtain ⟨z, rfl⟩ := GV_nat h1
        refine Ev.congr (f := ?f8) (fun k => ?h8) ?k8
        case h8 => rw [decide_eq_true h2, if_pos rfl, if_pos rfl] <;> exact rfl
        refine Ev.bind (sMul z (GV_le h1).1 (GV_le h1).2 a b (GV_len h1) (GV_len h2)) ((Ev.now _).is ?_)
        unfold mulR; rw [if_pos ⟨h1, h2, rfl⟩]; rfl
      · refine ev_some (fun k => ?_)
        rw [decide_eq_true h2, if_pos rfl, if_neg e]; unfold mulR; rw [if_neg (fun h => e h.2.2)]
    · refine ev_some (fun k => ?_)
      rw [decide_eq_false h2, if_neg (by simp)]; unfold mulR; rw [if_neg (fun h => h2 h.2.1)]
  · refine ev_some (fun k => ?_)
    rw [decide_eq_false h1, if_neg (by simp)]; unfold mulR; rw [if_neg (fun h => h1 h.1)]
end Go.Proofs.Ytengegdaiphfeaa.Y
end
section
namespace Go.Proofs.Ytengegdaiphfeaa.Y
open Go.RowKit Go.Proofs.Ytengegdaiphfeaa.X Go.Proofs.YtengegdaiphfeaaW.PrintWords Go.Proofs.YtengegdaiphfeaaW.PrintLast Go.Proofs.YtengegdaiphfeaaW.PrintMore
set_option linter.unusedVariables false
set_option linter.unusedSimpArgs false
def gr (x : Int) : Int := if x = 0 then 0 else if x = 1000000 then 3 else 1
def gradesR (n : Int) (l : List Int) : Int × List Int × Bool := if MV n l then (n, l.map gr, true) else (0, [], false)
theorem MV_nat {n : Int} {l : List Int} (h : MV n l) : ∃ m : Nat, n = (m : Int) ∧ 1 ≤ m ∧ m ≤ 4 ∧ l.length = m * m := by
  refine ⟨n.toNat, ?_⟩
  have h1 := h.1
  have h2 := h.2.1
  have h3 := h.2.2.1
  obtain ⟨m, rfl⟩ : ∃ m : Nat, n = (m : Int) := ⟨n.toNat, by omega⟩
  refine ⟨by simp, by simp; omega, by simp; omega, ?_⟩
  simp only [Int.toNat_natCast]
  exact_mod_cast h3
theorem gradesR_len (n : Int) (l : List Int) (h : l.length ≤ 1048576) : (gradesR n l).2.1.length ≤ 1048576 := by
  unfold gradesR
  by_cases g : MV n l
  · rw [if_pos g]; simpa using h
  · rw [if_neg g]; simp
theorem iGrades (n : Int) (l : List Int) (hl : l.length ≤ maxLen) : Ev (fun k => impl_GradesOf.f k n l) (gradesR n l) := by
  unfold impl_GradesOf.f
  refine Ev.bind (iMV n l hl) ?_
  by_cases g : MV n l
  · refine Ev_t (decide_eq_true g) ?_
    have e : gradesR n l = (n, l.map gr, true) := by unfold gradesR; rw [if_pos g]
    rw [e]
    obtain ⟨m, rfl, h1, h4, hs⟩ := MV_nat g
    have em : l.map gr = sqL m (fun i k => gr (l.getD (i * m + k) 0)) := by
      rw [eq_sqL m (l.map gr) (by simpa using hs)]
      refine sqL_congr m _ _ (fun i k hi hk => ?_)
      have hc := cell_lt m i k hi hk
      have hc' : i * m + k < l.length := by omega
      simp [List.getD_eq_getElem?_getD, List.getElem?_eq_getElem hc']
    rw [em]
    refine Ev.bind (a := ((m : Int), sqL m (fun i k => gr (l.getD (i * m + k) 0)))) ?_ (Ev.now _)
    exact filled_ev m h4 (fun i k => gr (l.getD (i * m + k) 0)) (fun K y0 y1 => impl_GradesOf_1.f y0 y1 m l) (fun i hi k hk => ev_some (fun K => by
      unfold impl_GradesOf_1.f gr
      rw [at_eq m h4 l hs i k hi hk, Option.bind_some]
      by_cases a : l.getD (i * m + k) 0 = 0
      · rw [if_pos a, if_pos a]
      · rw [if_neg a, if_neg a]
        by_cases b : l.getD (i * m + k) 0 = 1000000
        · rw [if_pos b, if_pos b]
        · rw [if_neg b, if_neg b]))
  · refine Ev_f (by rw [decide_eq_false g]; simp) ((Ev.now _).is ?_)
    unfold gradesR; rw [if_neg g]
theorem sGradesL (n : Int) (l : List Int) (hl : l.length ≤ 1048576) : Ev (fun k => spec_l6Grades.f k n l) (n, l.map gr) := by
  have go : ∀ (t pre : List Int), l = pre ++ t → Ev (fun k => spec_l6Grades.l0 k l (l.length : Int) (pre.length : Int) n (pre.map gr)) (n, l.map gr) := by
    intro t
    induction t with
    | nil =>
      intro pre hp
      refine Ev.step (f := fun _ => some (n, pre.map gr)) (fun k => ?_) ((Ev.now _).is (by rw [hp]; simp))
      simp only [spec_l6Grades.l0]; rw [if_neg (by rw [hp]; simp)]
    | cons x t ih =>
      intro pre hp
      have hlen : l.length = pre.length + (t.length + 1) := by rw [hp]; simp
      have hx : rd l (pre.length : Int) = x := by rw [hp, rd_mid]
      have hi := ih (pre ++ [x]) (by simp [hp])
      refine Ev.step (fun k => ?_) hi
      simp only [spec_l6Grades.l0]
      rw [if_pos (by omega), if_pos (by omega), if_pos (by omega), hx, w64 (x := (pre.length : Int) + 1) (by omega) (by omega), snoc_len, List.map_append, List.map_cons, List.map_nil]
      have hm : (pre.map gr).length < 17592186044416 := by rw [List.length_map]; omega
      by_cases a : x = 0
      · have e : gr x = 0 := by unfold gr; rw [if_pos a]
        rw [if_pos a, if_pos hm, e]
      · rw [if_neg a]
        by_cases b : x = 1000000
        · have e : gr x = 3 := by unfold gr; rw [if_neg a, if_pos b]
          rw [if_pos b, if_pos hm, e]
        · have e : gr x = 1 := by unfold gr; rw [if_neg a, if_neg b]
          rw [if_neg b, if_pos hm, e]
  exact go l [] rfl
theorem sGrades (n : Int) (l : List Int) (hl : l.length ≤ 1048576) : Ev (fun k => spec_GradesOf.f k n l) (gradesR n l) := by
  unfold spec_GradesOf.f
  refine Ev.bind (sMV n l (by rw [maxLen_eq]; omega)) ?_
  by_cases g : MV n l
  · refine Ev_t (decide_eq_true g) (Ev.bind (sGradesL n l hl) ((Ev.now _).is ?_))
    unfold gradesR; rw [if_pos g]
  · refine Ev_f (by rw [decide_eq_false g]; simp) ((Ev.now _).is ?_)
    unfold gradesR; rw [if_neg g]
end Go.Proofs.Ytengegdaiphfeaa.Y
end
section
namespace Go.Proofs.Ytengegdaiphfeaa.Y
open Go.RowKit Go.Proofs.Ytengegdaiphfeaa.X Go.Proofs.YtengegdaiphfeaaW.PrintWords Go.Proofs.YtengegdaiphfeaaW.PrintLast Go.Proofs.YtengegdaiphfeaaW.PrintMore
set_option linter.unusedVariables false
set_option linter.unusedSimpArgs false
def count : Int → Nat → List Int
  | _, 0 => []
  | k, n + 1 => k :: count (k + 1) n
theorem count_length (n : Nat) : ∀ k, (count k n).length = n := by induction n with
  | zero => intro k; rfl
  | succ n ih => intro k; simp [count, ih]
theorem markIntS_ev (l : List Int) (c : Int) (h : l.length ≤ 1000000000) (h0 : 0 ≤ c) (h1 : c ≤ 1000000000) : Ev (fun k => laws_markIntS.f k l c) (c + l.length, count c l.length) := by
  have go : ∀ (t pre : List Int) (m : Int), pre.length + t.length = l.length → m = c + pre.length → Ev (fun k => laws_markIntS.l0 k (pre ++ t) m (pre.length : Int)) (c + l.length, pre ++ count m t.length) := by
    intro t
    induction t with
    | nil =>
      intro pre m hl hm
      refine Ev.step (f := fun _ => some (m, pre)) (fun k => ?_) ((Ev.now _).is ?_)
      · simp only [laws_markIntS.l0]; rw [if_neg (by simp)]; simp
      · simp at hl; simp [count]; omega
    | cons x t ih =>
      intro pre m hl hm
      simp at hl
      have i := ih (pre ++ [m]) (m + 1) (by simp; omega) (by simp; omega)
      refine Ev.step (fun k => ?_) (i.is (by simp [count]))
      simp only [laws_markIntS.l0]
      rw [if_pos (by simp; omega), if_pos (by omega), w64 (by omega) (by omega), w64 (by omega) (by omega), snoc_len]
      congr 1
      simp [List.set_append]
  exact (go l [] c (by simp) (by simp))
theorem heldIntS_ev (n : Nat) (c : Int) (h : n ≤ 1000000000) (h0 : 0 ≤ c) (h1 : c ≤ 1000000000) : Ev (fun k => laws_heldIntS.f k (count c n) c) (c + n) := by
  have go : ∀ (m : Nat) (pre : List Int) (z : Int), pre.length + m = n → z = c + pre.length → Ev (fun k => laws_heldIntS.l0 k (pre ++ count z m) z (pre.length : Int)) (c + n) := by
    intro m
    induction m with
    | zero =>
      intro pre z hl hz
      refine Ev.step (f := fun _ => some z) (fun k => ?_) ((Ev.now _).is (by omega))
      simp only [laws_heldIntS.l0]; rw [if_neg (by simp [count])]
    | succ m ih =>
      intro pre z hl hz
      have i := ih (pre ++ [z]) (z + 1) (by simp; omega) (by simp; omega)
      show Ev (fun k => laws_heldIntS.l0 k (pre ++ z :: count (z + 1) m) z (pre.length : Int)) (c + n)
      refine Ev.step (fun k => ?_) i
      simp only [laws_heldIntS.l0]
      rw [if_pos (by simp [count_length]; omega), if_pos (by omega), if_pos (by rw [rd_mid]), w64 (by omega) (by omega), w64 (by omega) (by omega), snoc_len]
      simp
  exact go n [] c (by simp) (by simp)
theorem markMatrix_ev (n : Int) (l : List Int) (c : Int) (h : l.length ≤ 1000000000) (h0 : 0 ≤ c) (h1 : c ≤ 1000000000) : Ev (fun k => laws_markMatrix.f k n l c) (c + l.length, count c l.length) := by
  refine Ev.congr (f := ?f1) (fun k => ?h1) ?k1
  case h1 => unfold laws_markMatrix.f; exact rfl
  exact Ev.bind (markIntS_ev l c h h0 h1) (Ev.now _)
theorem heldMatrix_ev (n : Int) (m : Nat) (c : Int) (h : m ≤ 1000000000) (h0 : 0 ≤ c) (h1 : c ≤ 1000000000) : Ev (fun k => laws_heldMatrix.f k n (count c m) c) (c + m) := by
  refine Ev.congr (f := ?f2) (fun k => ?h2) ?k2
  case h2 => unfold laws_heldMatrix.f; exact rfl
  exact Ev.bind (heldIntS_ev m c h h0 h1) (Ev.congr (f := fun _ => some (c + m)) (fun k => by rw [if_neg (by omega)]) (Ev.now _))
end Go.Proofs.Ytengegdaiphfeaa.Y
end
