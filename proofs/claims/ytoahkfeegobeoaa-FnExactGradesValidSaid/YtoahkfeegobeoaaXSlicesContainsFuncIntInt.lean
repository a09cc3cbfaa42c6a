import Derived.Test.YtoahkfeegobeoaaXT
import Derived.Test.YtoahkfeegobeoaaXSlicesIndexFuncIntInt
namespace Go.Proofs.Ytoahkfeegobeoaa.X
open Go.RowKit Go.Proofs.YtoahkfeegobeoaaW.PrintWords Go.Proofs.YtoahkfeegobeoaaW.PrintLast Go.Proofs.YtoahkfeegobeoaaW.PrintMore
attribute [local go_sem] max2_int min2_int max_two min_two max_three min_three max_four min_four
set_option linter.unusedVariables false
set_option linter.unusedSimpArgs false

/-! ### slices_ContainsFunc_int_int: function 32 -/
def slices_ContainsFunc_int_int.f (p1 : Int → Option (Bool)) (k : Nat) (l0 : List Int) : Option (Bool) := (slices_IndexFunc_int_int.f p1 k l0).bind fun t => some (decide (t ≥ 0))
theorem slices_ContainsFunc_int_int.mono (p1 : Int → Option (Bool)) : ∀ a0 k, LeO (slices_ContainsFunc_int_int.f p1 k a0) (slices_ContainsFunc_int_int.f p1 (k + 1) a0) := by
  intro a0 k
  unfold slices_ContainsFunc_int_int.f
  exact LeO.bind (slices_IndexFunc_int_int.mono p1 _ _) (fun _ => LeO.refl _)
theorem slices_ContainsFunc_int_int.monoP {p p' : Int → Option (Bool)} (hp : ∀ y0, LeO (p y0) (p' y0)) : ∀ a0 k, LeO (slices_ContainsFunc_int_int.f p k a0) (slices_ContainsFunc_int_int.f p' (k + 1) a0) := by
  intro a0 k
  unfold slices_ContainsFunc_int_int.f
  exact LeO.bind (slices_IndexFunc_int_int.monoP hp _ _) (fun _ => LeO.refl _)
set_option maxHeartbeats 8000000 in
theorem slices_ContainsFunc_int_int.calls (k : Nat) (A0 : Option Addr) (c0 : Nat) (l0 : List Int) (q1 : FuncId) (F1 C1 : Array Value) (p1 : Int → Option (Bool)) (r : Bool) (w : World) (hr0 : Kd.C (Kd.int .i64) w A0 l0.length l0) (hc0 : l0.length ≤ c0) (hq1 : FnAt Try.prog q1) (hp1 : ∀ (ay0 : Int) (z0 : Bool) (W_ : World), Below w.heap.size w W_ → p1 ay0 = some z0 → Calls Try.prog q1 (F1 ++ #[.int .i64 ay0] ++ C1) W_ fun e w' => e = .returned (.bool z0) ∧ Below W_.heap.size W_ w') (h : slices_ContainsFunc_int_int.f p1 k l0 = some r) :
    Calls Try.prog 32 #[.slice A0 l0.length c0, .func (.func q1) F1 C1] w fun e w' => e = .returned (.bool r) ∧ Below w.heap.size w w' := by
  obtain ⟨t, h1, h2⟩ := Option.bind_eq_some_iff.mp h
  have C := Aside0.mk (slices_IndexFunc_int_int.calls k A0 c0 l0 q1 F1 C1 p1 t w hr0 hc0 hq1 hp1 h1)
  clear h hr0 hc0 hq1 hp1 h1
  obtain rfl := Option.some.inj h2
  clear h2
  go_enter Try.func32, Try.ntmps32
  go_wp2_with (first | ((with_reducible refine gate_callee (f := 39) rfl ?_); refine goesL_ (some 7) rfl rfl Try.func39 (by kernel_rfl) rfl #[.slice A0 l0.length c0, .func (.func q1) F1 C1] rfl (by (try simp only [List.map_toArray, List.map_cons, List.map_nil]); first | done | rfl) ?_; refine C.out.mono ?_; rintro e w' ⟨rfl, hb⟩; have HB := Aside0.mk hb; clear hb; refine ⟨_, rfl, ?_⟩))
  go_ret
  exact ⟨by first | rfl | (simp; done) | (simp [*]; done), HB.out⟩

end Go.Proofs.Ytoahkfeegobeoaa.X
