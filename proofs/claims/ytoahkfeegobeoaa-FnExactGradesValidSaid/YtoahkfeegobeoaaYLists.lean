import Derived.Test.YtoahkfeegobeoaaXW
import Derived.Test.YtoahkfeegobeoaaYBytes
namespace Go.Proofs.Ytoahkfeegobeoaa.Y
open Go.RowKit Go.Proofs.Ytoahkfeegobeoaa.X Go.Proofs.YtoahkfeegobeoaaW.PrintWords Go.Proofs.YtoahkfeegobeoaaW.PrintLast Go.Proofs.YtoahkfeegobeoaaW.PrintMore
set_option linter.unusedVariables false
set_option linter.unusedSimpArgs false
/-! ### lists by index -/
theorem rd_mid (pre : List Int) (x : Int) (t : List Int) : rd (pre ++ x :: t) (pre.length : Int) = x := by simp [rd, List.getD_eq_getElem?_getD]
theorem rd_nat (l : List Int) (i : Nat) : rd l (i : Int) = l.getD i 0 := by simp [rd]
theorem snoc_len (pre : List Int) (x : Int) : (((pre ++ [x]).length : Nat) : Int) = (pre.length : Int) + 1 := by simp
theorem wf_in {n : Int} (h : (Lit.int .i64 n).wf = true) : -9223372036854775808 ≤ n ∧ n ≤ 9223372036854775807 := by
  have hmin : IntKind.i64.min = -9223372036854775808 := rfl
  have hmax : IntKind.i64.max = 9223372036854775807 := rfl
  simp only [Lit.wf, Bool.and_eq_true, decide_eq_true_eq] at h
  omega
theorem maxLen_eq : maxLen = 9223372036854775807 := rfl
/-- many evaluations at once -/
theorem ev_all {α : Type} {f : Nat → Nat → Option α} {g : Nat → α} (n : Nat) (h : ∀ i, i < n → Ev (f i) (g i)) : ∃ K0, ∀ K, K0 ≤ K → ∀ i, i < n → f i K = some (g i) := by
  induction n with
  | zero => exact ⟨0, fun _ _ i hi => by omega⟩
  | succ n ih =>
    obtain ⟨K0, h0⟩ := ih (fun i hi => h i (by omega))
    obtain ⟨K1, h1⟩ := h n (by omega)
    refine ⟨max K0 K1, fun K hK i hi => ?_⟩
    by_cases e : i = n
    · subst e; exact h1 K (by omega)
    · exact h0 K (by omega) i (by omega)
theorem ev_up {α : Type} {f : Nat → Option α} {p : Nat → Nat → Option α} {r : α} (h : Ev f r) (hp : ∃ K0, ∀ K, K0 ≤ K → ∀ j, LeO (f j) (p K (j + 1))) (hm : ∀ K j, LeO (p K j) (p K (j + 1))) : Ev (fun K => p K K) r := by
  obtain ⟨K1, h1⟩ := h
  obtain ⟨K0, h0⟩ := hp
  refine ⟨max K0 (K1 + 1), fun K hK => ?_⟩
  have a := h0 K (by omega) K1 r (h1 K1 (Nat.le_refl _))
  exact at_rounds (g := p K) (hm K) (show K1 + 1 ≤ K by omega) a
theorem ev_some {α : Type} {f : Nat → Option α} {r : α} (h : ∀ k, f k = some r) : Ev f r := ⟨0, fun k _ => h k⟩
theorem up_loop {β : Type} (n : Nat) (L : Nat → Nat → Option β) (r : β) (step : ∀ i, i < n → Ev (L (i + 1)) r → Ev (L i) r) (h : Ev (L n) r) : Ev (L 0) r := by
  have go : ∀ d, d ≤ n → Ev (L (n - d)) r := by
    intro d
    induction d with
    | zero => intro _; exact h
    | succ d ih =>
      intro hd
      have e : n - (d + 1) + 1 = n - d := by omega
      exact step (n - (d + 1)) (by omega) (by rw [e]; exact ih (by omega))
  have := go n (Nat.le_refl _)
  rwa [Nat.sub_self] at this
/-- the values of a function, in order -/
def tab (N : Nat) (F : Nat → Int) : List Int := (List.range N).map F
theorem tab_length (N : Nat) (F : Nat → Int) : (tab N F).length = N := by simp [tab]
theorem tab_snoc (N : Nat) (F : Nat → Int) : tab N F ++ [F N] = tab (N + 1) F := by simp [tab, List.range_succ]
theorem tab_get (N : Nat) (F : Nat → Int) (j : Nat) (h : j < N) : (tab N F).getD j 0 = F j := by
  simp [tab, List.getD_eq_getElem?_getD, List.getElem?_map, List.getElem?_range h]
theorem tab_congr (N : Nat) (F G : Nat → Int) (h : ∀ j, j < N → F j = G j) : tab N F = tab N G := by
  unfold tab
  exact List.map_congr_left (fun j hj => h j (List.mem_range.mp hj))
theorem mem_tab {N : Nat} {F : Nat → Int} {x : Int} : x ∈ tab N F ↔ ∃ j, j < N ∧ F j = x := by simp [tab]
theorem eq_tab (l : List Int) (N : Nat) (h : l.length = N) : l = tab N (fun j => l.getD j 0) := by
  apply List.ext_getElem
  · simp [tab, h]
  · intro i h1 h2
    simp [tab, List.getD_eq_getElem?_getD, List.getElem?_eq_getElem h1]
theorem fold_snoc {β : Type} (n : Nat) (f : β → Nat → β) (b : β) : (List.range (n + 1)).foldl f b = f ((List.range n).foldl f b) n := by simp [List.range_succ]

end Go.Proofs.Ytoahkfeegobeoaa.Y
