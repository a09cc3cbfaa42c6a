import Derived.Test.YtengegdaiphfeaaKFnExactIdempotentOf1
import Derived.Test.YtengegdaiphfeaaKFnExactIdempotentOf2
import Derived.Test.YtengegdaiphfeaaKFnExactIdempotentOf3
section
namespace Go.Proofs.Ytengegdaiphfeaa.X
open Go.RowKit Go.Proofs.YtengegdaiphfeaaW.PrintWords Go.Proofs.YtengegdaiphfeaaW.PrintLast Go.Proofs.YtengegdaiphfeaaW.PrintMore
attribute [local go_sem] max2_int min2_int max_two min_two max_three min_three max_four min_four
set_option linter.unusedVariables false
set_option linter.unusedSimpArgs false
mutual
def laws_FnExactIdempotentOf.j0 : Nat → Int → Bool → Int → Bool → Bool → Int → List Int → Int → List Int → Int → List Int → Int → List Int → Option (Bool)
  | 0, _, _, _, _, _, _, _, _, _, _, _, _, _ => none
  | k + 1, x5, x6, x9, x10, x50, x721000, x721001, x733000, x733001, x738000, x738001, x745000, x745001 => if x50 = true then (some false) else ((laws_toMatrix.f k x721000 x721001).bind fun bt746 => ((laws_eqMatrix.f k x738000 x738001 bt746.1 bt746.2).bind fun t750 => (if t750 = true then ((laws_markMatrix.f k x738000 x738001 1).bind fun bt751 => (if bt751.1 < 0 then (laws_FnExactIdempotentOf.j1 k x5 x6 true x721000 x721001 x733000 x733001 x745000 x745001) else ((laws_eqMatrix.f k x745000 x745001 x733000 x733001).bind fun t753 => (if t753 = true then (if x9 = x5 then (laws_FnExactIdempotentOf.j1 k x5 x6 (x10 != x6) x721000 x721001 x733000 x733001 x745000 x745001) else (laws_FnExactIdempotentOf.j1 k x5 x6 true x721000 x721001 x733000 x733001 x745000 x745001)) else (laws_FnExactIdempotentOf.j1 k x5 x6 true x721000 x721001 x733000 x733001 x745000 x745001))))) else (some false))))
def laws_FnExactIdempotentOf.j1 : Nat → Int → Bool → Bool → Int → List Int → Int → List Int → Int → List Int → Option (Bool)
  | 0, _, _, _, _, _, _, _, _, _ => none
  | k + 1, x5, x6, x76, x721000, x721001, x733000, x733001, x745000, x745001 => if x76 = true then (some false) else ((laws_markMatrix.f k x745000 x745001 1).bind fun bt754 => ((laws_heldMatrix.f k x745000 bt754.2 1).bind fun t756 => (if t756 < 0 then (some false) else (if t756 = bt754.1 then ((laws_toMatrix.f k x721000 x721001).bind fun bt757 => ((impl_IdempotentOf.f k bt757.1 bt757.2).bind fun bt761 => ((laws_eqMatrix.f k bt761.1 bt761.2.1 x733000 x733001).bind fun t768 => (if t768 = true then (if bt761.2.2.1 = x5 then (laws_FnExactIdempotentOf.j2 k bt754.1 (bt761.2.2.2 != x6) x745000 bt754.2) else (laws_FnExactIdempotentOf.j2 k bt754.1 true x745000 bt754.2)) else (laws_FnExactIdempotentOf.j2 k bt754.1 true x745000 bt754.2))))) else (some false)))))
def laws_FnExactIdempotentOf.j2 : Nat → Int → Bool → Int → List Int → Option (Bool)
  | 0, _, _, _, _ => none
  | k + 1, x12, x108, x745000, x745001 => if x108 = true then (some false) else ((laws_heldMatrix.f k x745000 x745001 1).bind fun t769 => (if t769 < 0 then (some false) else (if t769 = x12 then (some true) else (some false))))
end
def laws_FnExactIdempotentOf.f (k : Nat) (a0_0 : Int) (l0_1 : List Int) : Option (Bool) := (laws_szMatrix.f a0_0 l0_1 1048576).bind fun t721 => (if t721 < 0 then (some true) else ((laws_toMatrix.f k a0_0 l0_1).bind fun bt722 => ((spec_IdempotentOf.f k bt722.1 bt722.2).bind fun bt726 => ((laws_toMatrix.f k a0_0 l0_1).bind fun bt733 => ((impl_IdempotentOf.f k bt733.1 bt733.2).bind fun bt738 => ((laws_eqMatrix.f k bt738.1 bt738.2.1 bt726.1 bt726.2.1).bind fun t745 => (if t745 = true then (if bt738.2.2.1 = bt726.2.2.1 then (laws_FnExactIdempotentOf.j0 k bt726.2.2.1 bt726.2.2.2 bt738.2.2.1 bt738.2.2.2 (bt738.2.2.2 != bt726.2.2.2) a0_0 l0_1 bt726.1 bt726.2.1 bt733.1 bt733.2 bt738.1 bt738.2.1) else (laws_FnExactIdempotentOf.j0 k bt726.2.2.1 bt726.2.2.2 bt738.2.2.1 bt738.2.2.2 true a0_0 l0_1 bt726.1 bt726.2.1 bt733.1 bt733.2 bt738.1 bt738.2.1)) else (laws_FnExactIdempotentOf.j0 k bt726.2.2.1 bt726.2.2.2 bt738.2.2.1 bt738.2.2.2 true a0_0 l0_1 bt726.1 bt726.2.1 bt733.1 bt733.2 bt738.1 bt738.2.1))))))))
theorem laws_FnExactIdempotentOf.mono_l : ∀ k, (∀ y0 y1 y2 y3 y4 y5 y6 y7 y8 y9 y10 y11 y12, LeO (laws_FnExactIdempotentOf.j0 k y0 y1 y2 y3 y4 y5 y6 y7 y8 y9 y10 y11 y12) (laws_FnExactIdempotentOf.j0 (k + 1) y0 y1 y2 y3 y4 y5 y6 y7 y8 y9 y10 y11 y12)) ∧ (∀ y0 y1 y2 y3 y4 y5 y6 y7 y8, LeO (laws_FnExactIdempotentOf.j1 k y0 y1 y2 y3 y4 y5 y6 y7 y8) (laws_FnExactIdempotentOf.j1 (k + 1) y0 y1 y2 y3 y4 y5 y6 y7 y8)) ∧ (∀ y0 y1 y2 y3, LeO (laws_FnExactIdempotentOf.j2 k y0 y1 y2 y3) (laws_FnExactIdempotentOf.j2 (k + 1) y0 y1 y2 y3))
  | 0 => ⟨fun _ _ _ _ _ _ _ _ _ _ _ _ _ r h => by simp [laws_FnExactIdempotentOf.j0] at h, fun _ _ _ _ _ _ _ _ _ r h => by simp [laws_FnExactIdempotentOf.j1] at h, fun _ _ _ _ r h => by simp [laws_FnExactIdempotentOf.j2] at h⟩
  | k + 1 => by
    obtain ⟨ih0, ih1, ih2⟩ := laws_FnExactIdempotentOf.mono_l k
    refine ⟨?_, ?_, ?_⟩
    · intro y0 y1 y2 y3 y4 y5 y6 y7 y8 y9 y10 y11 y12
      unfold laws_FnExactIdempotentOf.j0
      repeat' first
      | (with_reducible exact ih0 _ _ _ _ _ _ _ _ _ _ _ _ _)
      | (with_reducible exact ih1 _ _ _ _ _ _ _ _ _)
      | (with_reducible exact ih2 _ _ _ _)
      | (with_reducible exact impl_IdempotentOf.mono _ _ _)
      | (with_reducible exact laws_eqMatrix.mono _ _ _ _ _)
      | (with_reducible exact laws_heldMatrix.mono _ _ _ _)
      | (with_reducible exact laws_markMatrix.mono _ _ _ _)
      | (with_reducible exact laws_toMatrix.mono _ _ _)
      | (with_reducible exact spec_IdempotentOf.mono _ _ _)
      | (with_reducible exact LeO.refl _)
      | (with_reducible exact LeO.none _)
      | (with_reducible refine LeO.ite ?_ ?_)
      | (with_reducible refine LeO.bind ?_ (fun _ => ?_))
      | exact ih0 _ _ _ _ _ _ _ _ _ _ _ _ _
      | exact ih1 _ _ _ _ _ _ _ _ _
      | exact ih2 _ _ _ _
      | exact impl_IdempotentOf.mono _ _ _
      | exact laws_eqMatrix.mono _ _ _ _ _
      | exact laws_heldMatrix.mono _ _ _ _
      | exact laws_markMatrix.mono _ _ _ _
      | exact laws_toMatrix.mono _ _ _
      | exact spec_IdempotentOf.mono _ _ _
      | exact LeO.none _
      | refine LeO.ite ?_ ?_
      | refine LeO.bind ?_ (fun _ => ?_)
    · intro y0 y1 y2 y3 y4 y5 y6 y7 y8
      unfold laws_FnExactIdempotentOf.j1
      repeat' first
      | (with_reducible exact ih0 _ _ _ _ _ _ _ _ _ _ _ _ _)
      | (with_reducible exact ih1 _ _ _ _ _ _ _ _ _)
      | (with_reducible exact ih2 _ _ _ _)
      | (with_reducible exact impl_IdempotentOf.mono _ _ _)
      | (with_reducible exact laws_eqMatrix.mono _ _ _ _ _)
      | (with_reducible exact laws_heldMatrix.mono _ _ _ _)
      | (with_reducible exact laws_markMatrix.mono _ _ _ _)
      | (with_reducible exact laws_toMatrix.mono _ _ _)
      | (with_reducible exact spec_IdempotentOf.mono _ _ _)
      | (with_reducible exact LeO.refl _)
      | (with_reducible exact LeO.none _)
      | (with_reducible refine LeO.ite ?_ ?_)
      | (with_reducible refine LeO.bind ?_ (fun _ => ?_))
      | exact ih0 _ _ _ _ _ _ _ _ _ _ _ _ _
      | exact ih1 _ _ _ _ _ _ _ _ _
      | exact ih2 _ _ _ _
      | exact impl_IdempotentOf.mono _ _ _
      | exact laws_eqMatrix.mono _ _ _ _ _
      | exact laws_heldMatrix.mono _ _ _ _
      | exact laws_markMatrix.mono _ _ _ _
      | exact laws_toMatrix.mono _ _ _
      | exact spec_IdempotentOf.mono _ _ _
      | exact LeO.none _
      | refine LeO.ite ?_ ?_
      | refine LeO.bind ?_ (fun _ => ?_)
    · intro y0 y1 y2 y3
      unfold laws_FnExactIdempotentOf.j2
      repeat' first
      | (with_reducible exact ih0 _ _ _ _ _ _ _ _ _ _ _ _ _)
      | (with_reducible exact ih1 _ _ _ _ _ _ _ _ _)
      | (with_reducible exact ih2 _ _ _ _)
      | (with_reducible exact impl_IdempotentOf.mono _ _ _)
      | (with_reducible exact laws_eqMatrix.mono _ _ _ _ _)
      | (with_reducible exact laws_heldMatrix.mono _ _ _ _)
      | (with_reducible exact laws_markMatrix.mono _ _ _ _)
      | (with_reducible exact laws_toMatrix.mono _ _ _)
      | (with_reducible exact spec_IdempotentOf.mono _ _ _)
      | (with_reducible exact LeO.refl _)
      | (with_reducible exact LeO.none _)
      | (with_reducible refine LeO.ite ?_ ?_)
      | (with_reducible refine LeO.bind ?_ (fun _ => ?_))
      | exact ih0 _ _ _ _ _ _ _ _ _ _ _ _ _
      | exact ih1 _ _ _ _ _ _ _ _ _
      | exact ih2 _ _ _ _
      | exact impl_IdempotentOf.mono _ _ _
      | exact laws_eqMatrix.mono _ _ _ _ _
      | exact laws_heldMatrix.mono _ _ _ _
      | exact laws_markMatrix.mono _ _ _ _
      | exact laws_toMatrix.mono _ _ _
      | exact spec_IdempotentOf.mono _ _ _
      | exact LeO.none _
      | refine LeO.ite ?_ ?_
      | refine LeO.bind ?_ (fun _ => ?_)
theorem laws_FnExactIdempotentOf.mono : ∀ a0 a1 k, LeO (laws_FnExactIdempotentOf.f k a0 a1) (laws_FnExactIdempotentOf.f (k + 1) a0 a1) := by
  intro a0 a1 k
  obtain ⟨ih0, ih1, ih2⟩ := laws_FnExactIdempotentOf.mono_l k
  unfold laws_FnExactIdempotentOf.f
  repeat' first
      | (with_reducible exact ih0 _ _ _ _ _ _ _ _ _ _ _ _ _)
      | (with_reducible exact ih1 _ _ _ _ _ _ _ _ _)
      | (with_reducible exact ih2 _ _ _ _)
      | (with_reducible exact impl_IdempotentOf.mono _ _ _)
      | (with_reducible exact laws_eqMatrix.mono _ _ _ _ _)
      | (with_reducible exact laws_heldMatrix.mono _ _ _ _)
      | (with_reducible exact laws_markMatrix.mono _ _ _ _)
      | (with_reducible exact laws_toMatrix.mono _ _ _)
      | (with_reducible exact spec_IdempotentOf.mono _ _ _)
      | (with_reducible exact LeO.refl _)
      | (with_reducible exact LeO.none _)
      | (with_reducible refine LeO.ite ?_ ?_)
      | (with_reducible refine LeO.bind ?_ (fun _ => ?_))
      | exact ih0 _ _ _ _ _ _ _ _ _ _ _ _ _
      | exact ih1 _ _ _ _ _ _ _ _ _
      | exact ih2 _ _ _ _
      | exact impl_IdempotentOf.mono _ _ _
      | exact laws_eqMatrix.mono _ _ _ _ _
      | exact laws_heldMatrix.mono _ _ _ _
      | exact laws_markMatrix.mono _ _ _ _
      | exact laws_toMatrix.mono _ _ _
      | exact spec_IdempotentOf.mono _ _ _
      | exact LeO.none _
      | refine LeO.ite ?_ ?_
      | refine LeO.bind ?_ (fun _ => ?_)
set_option maxHeartbeats 8000000 in
set_option maxRecDepth 100000 in
theorem laws_FnExactIdempotentOf.calls (k : Nat) (a0_0 : Int) (A0_1 : Option Addr) (c0_1 : Nat) (l0_1 : List Int) (r : Bool) (w : World) (hr0_1 : Kd.C (Kd.int .i64) w A0_1 l0_1.length l0_1) (hc0_1 : l0_1.length ≤ c0_1) (h : laws_FnExactIdempotentOf.f k a0_0 l0_1 = some r) :
    Calls Try.prog 10 #[.agg #[.int .i64 a0_0, .slice A0_1 l0_1.length c0_1]] w fun e w' => e = .returned (.bool r) ∧ Below w.heap.size w w' := by
  have hu26 := Try.underlying26
  have hu28 := Try.underlying28
  have HR0_1 := Aside0.mk hr0_1
  have HC0_1 := Aside0.mk hc0_1
  clear hr0_1 hc0_1
  have HB := Aside0.mk (Below.refl w.heap.size w)
  have H : ((laws_szMatrix.f a0_0 l0_1 1048576).bind fun t721 => (if t721 < 0 then (some true) else ((laws_toMatrix.f k a0_0 l0_1).bind fun bt722 => ((spec_IdempotentOf.f k bt722.1 bt722.2).bind fun bt726 => ((laws_toMatrix.f k a0_0 l0_1).bind fun bt733 => ((impl_IdempotentOf.f k bt733.1 bt733.2).bind fun bt738 => ((laws_eqMatrix.f k bt738.1 bt738.2.1 bt726.1 bt726.2.1).bind fun t745 => (if t745 = true then (if bt738.2.2.1 = bt726.2.2.1 then (laws_FnExactIdempotentOf.j0 k bt726.2.2.1 bt726.2.2.2 bt738.2.2.1 bt738.2.2.2 (bt738.2.2.2 != bt726.2.2.2) a0_0 l0_1 bt726.1 bt726.2.1 bt733.1 bt733.2 bt738.1 bt738.2.1) else (laws_FnExactIdempotentOf.j0 k bt726.2.2.1 bt726.2.2.2 bt738.2.2.1 bt738.2.2.2 true a0_0 l0_1 bt726.1 bt726.2.1 bt733.1 bt733.2 bt738.1 bt738.2.1)) else (laws_FnExactIdempotentOf.j0 k bt726.2.2.1 bt726.2.2.2 bt738.2.2.1 bt738.2.2.2 true a0_0 l0_1 bt726.1 bt726.2.1 bt733.1 bt733.2 bt738.1 bt738.2.1))))))))) = some r := h
  clear h
  replace H := Option.bind_eq_some_iff.mp H
  obtain ⟨t721, A20, H⟩ := H
  replace H : (if t721 < 0 then (some true) else ((laws_toMatrix.f k a0_0 l0_1).bind fun bt722 => ((spec_IdempotentOf.f k bt722.1 bt722.2).bind fun bt726 => ((laws_toMatrix.f k a0_0 l0_1).bind fun bt733 => ((impl_IdempotentOf.f k bt733.1 bt733.2).bind fun bt738 => ((laws_eqMatrix.f k bt738.1 bt738.2.1 bt726.1 bt726.2.1).bind fun t745 => (if t745 = true then (if bt738.2.2.1 = bt726.2.2.1 then (laws_FnExactIdempotentOf.j0 k bt726.2.2.1 bt726.2.2.2 bt738.2.2.1 bt738.2.2.2 (bt738.2.2.2 != bt726.2.2.2) a0_0 l0_1 bt726.1 bt726.2.1 bt733.1 bt733.2 bt738.1 bt738.2.1) else (laws_FnExactIdempotentOf.j0 k bt726.2.2.1 bt726.2.2.2 bt738.2.2.1 bt738.2.2.2 true a0_0 l0_1 bt726.1 bt726.2.1 bt733.1 bt733.2 bt738.1 bt738.2.1)) else (laws_FnExactIdempotentOf.j0 k bt726.2.2.1 bt726.2.2.2 bt738.2.2.1 bt738.2.2.2 true a0_0 l0_1 bt726.1 bt726.2.1 bt733.1 bt733.2 bt738.1 bt738.2.1)))))))) = some r := H
  have A2 := Aside0.mk A20
  clear A20
  by_cases c3 : t721 < 0
  · rw [if_pos c3] at H
    have c3b0 : decide (t721 < 0) = true := decide_eq_true c3
    clear c3
    obtain rfl := Option.some.inj H
    go_enter Try.func10, Try.ntmps10
    go_wp2_with (first | ((with_reducible refine gate_dst (N := 1) rfl ?_); refine box_event ?hg (N := 1) ?hd (cs := #[.int .i64 a0_0, .slice A0_1 l0_1.length c0_1]) (t := 26) ?hr ?_; (case hd => rfl); (case hg => rfl); (case hr => first | (go_simp; done) | (go_simp; rfl)); intro gb720 hg w4 hbox hb; have n0_ := Aside0.mk (below_step (by repeat (first | (with_reducible first | exact HB.out | apply below_alloc | apply pw_below_drewN | apply below_drew1) | exact HB.out)) hb); have n1_ := Aside0.mk (hbox); have n2_ := Aside0.mk ((by rw [hg]; exact (below_size (by repeat (first | (with_reducible first | exact HB.out | apply below_alloc | apply pw_below_drewN | apply below_drew1) | exact HB.out))) : w.heap.size ≤ gb720)); have n3_ := Aside0.mk ((by rw [hg]; exact (below_size (by repeat (first | (with_reducible first | exact HB.out | apply below_alloc | apply pw_below_drewN | apply below_drew1) | exact HB.out))) : w.heap.size ≤ gb720)); clear HB; have HB := n0_; have BK720 := n1_; have GW720 := n2_; have GE720 := n3_; clear n0_ n1_ n2_ n3_; clear hb hbox hg; have hcz5_0 : w4.cell? ⟨gb720, 0, none⟩ = some (.int .i64 a0_0) := (blk_cell BK720.out 0).trans rfl; have hcz5_1 : w4.cell? ⟨gb720, 1, none⟩ = some (.slice A0_1 l0_1.length c0_1) := (blk_cell BK720.out 1).trans rfl; have hfz5_0 := blk_frozen BK720.out 0; have hfz5_1 := blk_frozen BK720.out 1) | ((with_reducible refine gate_callee (f := 17) rfl ?_); refine goesL_ (some 19) rfl rfl Try.func17 (by kernel_rfl) rfl #[.agg #[.int .i64 a0_0, .slice A0_1 l0_1.length c0_1], .int .i64 1048576] rfl (by (try simp only [List.map_toArray, List.map_cons, List.map_nil]); first | done | rfl | (simp only [List.length_drop, List.length_take]; rfl)) ?_; (with_reducible refine (laws_szMatrix.calls a0_0 _ _ l0_1 1048576 t721 _ ?side1 ?side2 A2.out).mono ?_); (case side1 => repeat (first | exact (Kd.C_below HR0_1.out HB.out) | (with_reducible refine Kd.C_alloc ?_ _) | (with_reducible refine Kd.C_drewN ?_ _) | (with_reducible refine Kd.C_drew ?_))); (case side2 => exact HC0_1.out); rintro e w6 ⟨rfl, hb⟩; refine ⟨_, rfl, ?_⟩; have n0_ := Aside0.mk (blk_below (g := gb720) (o := .cells #[.int .i64 a0_0, .slice A0_1 l0_1.length c0_1] 26 (0, 0)) (by (with_reducible repeat (first | refine blk_drewN ?_ _ | refine blk_drew ?_ | refine blk_alloc ?_ _)); exact BK720.out) hb); have n1_ := Aside0.mk (below_step (by repeat (first | (with_reducible first | exact HB.out | apply below_alloc | apply pw_below_drewN | apply below_drew1 | refine below_set ?_ GE720.out) | exact HB.out)) hb); clear BK720; clear HB; have BK720 := n0_; have HB := n1_; clear n0_ n1_; (try clear hb); (try clear hb2); (try clear hk); (try clear hi)))
    go_ret
    exact ⟨by first | rfl | (simp [errW_none, errW_some] <;> rfl) | (simp [*, errW_none, errW_some] <;> rfl), by repeat (first | (with_reducible first | exact HB.out | apply below_alloc | apply pw_below_drewN | apply below_drew1 | refine below_set ?_ GE720.out) | exact HB.out)⟩
  · rw [if_neg c3] at H
    have c3b0 : decide (t721 < 0) = false := decide_eq_false c3
    clear c3
    replace H := Option.bind_eq_some_iff.mp H
    obtain ⟨⟨t722, t723⟩, A70, H⟩ := H
    replace H : ((spec_IdempotentOf.f k t722 t723).bind fun bt726 => ((laws_toMatrix.f k a0_0 l0_1).bind fun bt733 => ((impl_IdempotentOf.f k bt733.1 bt733.2).bind fun bt738 => ((laws_eqMatrix.f k bt738.1 bt738.2.1 bt726.1 bt726.2.1).bind fun t745 => (if t745 = true then (if bt738.2.2.1 = bt726.2.2.1 then (laws_FnExactIdempotentOf.j0 k bt726.2.2.1 bt726.2.2.2 bt738.2.2.1 bt738.2.2.2 (bt738.2.2.2 != bt726.2.2.2) a0_0 l0_1 bt726.1 bt726.2.1 bt733.1 bt733.2 bt738.1 bt738.2.1) else (laws_FnExactIdempotentOf.j0 k bt726.2.2.1 bt726.2.2.2 bt738.2.2.1 bt738.2.2.2 true a0_0 l0_1 bt726.1 bt726.2.1 bt733.1 bt733.2 bt738.1 bt738.2.1)) else (laws_FnExactIdempotentOf.j0 k bt726.2.2.1 bt726.2.2.2 bt738.2.2.1 bt738.2.2.2 true a0_0 l0_1 bt726.1 bt726.2.1 bt733.1 bt733.2 bt738.1 bt738.2.1)))))) = some r := H
    have A7 := Aside0.mk A70
    clear A70
    replace H := Option.bind_eq_some_iff.mp H
    obtain ⟨⟨t726, t727, t730, t731⟩, A80, H⟩ := H
    replace H : ((laws_toMatrix.f k a0_0 l0_1).bind fun bt733 => ((impl_IdempotentOf.f k bt733.1 bt733.2).bind fun bt738 => ((laws_eqMatrix.f k bt738.1 bt738.2.1 t726 t727).bind fun t745 => (if t745 = true then (if bt738.2.2.1 = t730 then (laws_FnExactIdempotentOf.j0 k t730 t731 bt738.2.2.1 bt738.2.2.2 (bt738.2.2.2 != t731) a0_0 l0_1 t726 t727 bt733.1 bt733.2 bt738.1 bt738.2.1) else (laws_FnExactIdempotentOf.j0 k t730 t731 bt738.2.2.1 bt738.2.2.2 true a0_0 l0_1 t726 t727 bt733.1 bt733.2 bt738.1 bt738.2.1)) else (laws_FnExactIdempotentOf.j0 k t730 t731 bt738.2.2.1 bt738.2.2.2 true a0_0 l0_1 t726 t727 bt733.1 bt733.2 bt738.1 bt738.2.1))))) = some r := H
    have A8 := Aside0.mk A80
    clear A80
    replace H := Option.bind_eq_some_iff.mp H
    obtain ⟨⟨t733, t734⟩, A90, H⟩ := H
    replace H : ((impl_IdempotentOf.f k t733 t734).bind fun bt738 => ((laws_eqMatrix.f k bt738.1 bt738.2.1 t726 t727).bind fun t745 => (if t745 = true then (if bt738.2.2.1 = t730 then (laws_FnExactIdempotentOf.j0 k t730 t731 bt738.2.2.1 bt738.2.2.2 (bt738.2.2.2 != t731) a0_0 l0_1 t726 t727 t733 t734 bt738.1 bt738.2.1) else (laws_FnExactIdempotentOf.j0 k t730 t731 bt738.2.2.1 bt738.2.2.2 true a0_0 l0_1 t726 t727 t733 t734 bt738.1 bt738.2.1)) else (laws_FnExactIdempotentOf.j0 k t730 t731 bt738.2.2.1 bt738.2.2.2 true a0_0 l0_1 t726 t727 t733 t734 bt738.1 bt738.2.1)))) = some r := H
    have A9 := Aside0.mk A90
    clear A90
    replace H := Option.bind_eq_some_iff.mp H
    obtain ⟨⟨t738, t739, t742, t743⟩, A100, H⟩ := H
    replace H : ((laws_eqMatrix.f k t738 t739 t726 t727).bind fun t745 => (if t745 = true then (if t742 = t730 then (laws_FnExactIdempotentOf.j0 k t730 t731 t742 t743 (t743 != t731) a0_0 l0_1 t726 t727 t733 t734 t738 t739) else (laws_FnExactIdempotentOf.j0 k t730 t731 t742 t743 true a0_0 l0_1 t726 t727 t733 t734 t738 t739)) else (laws_FnExactIdempotentOf.j0 k t730 t731 t742 t743 true a0_0 l0_1 t726 t727 t733 t734 t738 t739))) = some r := H
    have A10 := Aside0.mk A100
    clear A100
    have HC11 := Aside0.mk H
    clear H
    go_enter Try.func10, Try.ntmps10
    go_upto_region 8 with (first | ((with_reducible refine gate_dst (N := 1) rfl ?_); refine box_event ?hg (N := 1) ?hd (cs := #[.int .i64 a0_0, .slice A0_1 l0_1.length c0_1]) (t := 26) ?hr ?_; (case hd => rfl); (case hg => rfl); (case hr => first | (go_simp; done) | (go_simp; rfl)); intro gb720 hg w12 hbox hb; have n0_ := Aside0.mk (below_step (by repeat (first | (with_reducible first | exact HB.out | apply below_alloc | apply pw_below_drewN | apply below_drew1) | exact HB.out)) hb); have n1_ := Aside0.mk (hbox); have n2_ := Aside0.mk ((by rw [hg]; exact (below_size (by repeat (first | (with_reducible first | exact HB.out | apply below_alloc | apply pw_below_drewN | apply below_drew1) | exact HB.out))) : w.heap.size ≤ gb720)); have n3_ := Aside0.mk ((by rw [hg]; exact (below_size (by repeat (first | (with_reducible first | exact HB.out | apply below_alloc | apply pw_below_drewN | apply below_drew1) | exact HB.out))) : w.heap.size ≤ gb720)); clear HB; have HB := n0_; have BK720 := n1_; have GW720 := n2_; have GE720 := n3_; clear n0_ n1_ n2_ n3_; clear hb hbox hg; have hcz13_0 : w12.cell? ⟨gb720, 0, none⟩ = some (.int .i64 a0_0) := (blk_cell BK720.out 0).trans rfl; have hcz13_1 : w12.cell? ⟨gb720, 1, none⟩ = some (.slice A0_1 l0_1.length c0_1) := (blk_cell BK720.out 1).trans rfl; have hfz13_0 := blk_frozen BK720.out 0; have hfz13_1 := blk_frozen BK720.out 1) | ((with_reducible refine gate_callee (f := 17) rfl ?_); refine goesL_ (some 19) rfl rfl Try.func17 (by kernel_rfl) rfl #[.agg #[.int .i64 a0_0, .slice A0_1 l0_1.length c0_1], .int .i64 1048576] rfl (by (try simp only [List.map_toArray, List.map_cons, List.map_nil]); first | done | rfl | (simp only [List.length_drop, List.length_take]; rfl)) ?_; (with_reducible refine (laws_szMatrix.calls a0_0 _ _ l0_1 1048576 t721 _ ?side1 ?side2 A2.out).mono ?_); (case side1 => repeat (first | exact (Kd.C_below HR0_1.out HB.out) | (with_reducible refine Kd.C_alloc ?_ _) | (with_reducible refine Kd.C_drewN ?_ _) | (with_reducible refine Kd.C_drew ?_))); (case side2 => exact HC0_1.out); rintro e w14 ⟨rfl, hb⟩; refine ⟨_, rfl, ?_⟩; have n0_ := Aside0.mk (blk_below (g := gb720) (o := .cells #[.int .i64 a0_0, .slice A0_1 l0_1.length c0_1] 26 (0, 0)) (by (with_reducible repeat (first | refine blk_drewN ?_ _ | refine blk_drew ?_ | refine blk_alloc ?_ _)); exact BK720.out) hb); have n1_ := Aside0.mk (below_step (by repeat (first | (with_reducible first | exact HB.out | apply below_alloc | apply pw_below_drewN | apply below_drew1 | refine below_set ?_ GE720.out) | exact HB.out)) hb); clear BK720; clear HB; have BK720 := n0_; have HB := n1_; clear n0_ n1_; (try clear hb); (try clear hb2); (try clear hk); (try clear hi); have hcz15_0 : w14.cell? ⟨gb720, 0, none⟩ = some (.int .i64 a0_0) := (blk_cell BK720.out 0).trans rfl; have hcz15_1 : w14.cell? ⟨gb720, 1, none⟩ = some (.slice A0_1 l0_1.length c0_1) := (blk_cell BK720.out 1).trans rfl; have hfz15_0 := blk_frozen BK720.out 0; have hfz15_1 := blk_frozen BK720.out 1) | ((with_reducible refine gate_callee (f := 19) rfl ?_); refine goesL_ (some 24) rfl rfl Try.func19 (by kernel_rfl) rfl #[.agg #[.int .i64 a0_0, .slice A0_1 l0_1.length c0_1]] rfl (by (try simp only [List.map_toArray, List.map_cons, List.map_nil]); first | done | rfl | (simp only [List.length_drop, List.length_take]; rfl)) ?_; (with_reducible refine (laws_toMatrix.calls k a0_0 _ _ l0_1 t722 t723 _ ?side1 ?side2 A7.out).mono ?_); (case side1 => repeat (first | exact (Kd.C_below HR0_1.out HB.out) | (with_reducible refine Kd.C_alloc ?_ _) | (with_reducible refine Kd.C_drewN ?_ _) | (with_reducible refine Kd.C_drew ?_))); (case side2 => exact HC0_1.out); rintro e w16 ⟨v724, rfl, ho0, hb⟩; refine ⟨_, rfl, ?_⟩; have n0_ := Aside0.mk (Kd.R_lower ho0 (below_size (by repeat (first | (with_reducible first | exact HB.out | apply below_alloc | apply pw_below_drewN | apply below_drew1 | refine below_set ?_ GE720.out) | exact HB.out)))); have n1_ := Aside0.mk (blk_below (g := gb720) (o := .cells #[.int .i64 a0_0, .slice A0_1 l0_1.length c0_1] 26 (0, 0)) (by (with_reducible repeat (first | refine blk_drewN ?_ _ | refine blk_drew ?_ | refine blk_alloc ?_ _)); exact BK720.out) hb); have n2_ := Aside0.mk (below_step (by repeat (first | (with_reducible first | exact HB.out | apply below_alloc | apply pw_below_drewN | apply below_drew1 | refine below_set ?_ GE720.out) | exact HB.out)) hb); clear BK720; clear HB; have HO725 := n0_; have BK720 := n1_; have HB := n2_; clear n0_ n1_ n2_; (try clear hb); (try clear hb2); (try clear hk); (try clear hi); (try clear ho0); obtain ⟨Ao17, co17, eo17⟩ := Kd.R_slice HO725.out; subst eo17) | ((with_reducible refine gate_callee (f := 30) rfl ?_); refine goesL_ (some 25) rfl rfl Try.func30 (by kernel_rfl) rfl #[.agg #[.int .i64 t722, .slice Ao17 t723.length co17]] rfl (by (try simp only [List.map_toArray, List.map_cons, List.map_nil]); first | done | rfl | (simp only [List.length_drop, List.length_take]; rfl)) ?_; (with_reducible refine (spec_IdempotentOf.calls k t722 _ _ t723 t726 t727 t730 t731 _ ?side1 ?side2 A8.out).mono ?_); (case side1 => repeat (first | exact (Kd.R_reads' HO725.out).2.2 | (with_reducible refine Kd.C_alloc ?_ _) | (with_reducible refine Kd.C_drewN ?_ _) | (with_reducible refine Kd.C_drew ?_))); (case side2 => exact (Kd.R_reads' HO725.out).2.1); rintro e w18 ⟨v728, rfl, ho0, hb⟩; refine ⟨_, rfl, ?_⟩; have n0_ := Aside0.mk (Kd.R_elder' (by (with_reducible repeat (first | apply Kd.R_alloc | apply Kd.R_drewN | apply Kd.R_drew)); exact HO725.out) (Kd.R_base ho0) hb); have n1_ := Aside0.mk (Kd.R_lower (Kd.R_new' ho0 (Kd.R_lt (by (with_reducible repeat (first | apply Kd.R_alloc | apply Kd.R_drewN | apply Kd.R_drew)); exact HO725.out))) (below_size (by repeat (first | (with_reducible first | exact HB.out | apply below_alloc | apply pw_below_drewN | apply below_drew1 | refine below_set ?_ GE720.out) | exact HB.out)))); have n2_ := Aside0.mk (blk_below (g := gb720) (o := .cells #[.int .i64 a0_0, .slice A0_1 l0_1.length c0_1] 26 (0, 0)) (by (with_reducible repeat (first | refine blk_drewN ?_ _ | refine blk_drew ?_ | refine blk_alloc ?_ _)); exact BK720.out) hb); have n3_ := Aside0.mk (below_step (by repeat (first | (with_reducible first | exact HB.out | apply below_alloc | apply pw_below_drewN | apply below_drew1 | refine below_set ?_ GE720.out) | exact HB.out)) hb); clear HO725; clear BK720; clear HB; have HO725 := n0_; have HO729 := n1_; have BK720 := n2_; have HB := n3_; clear n0_ n1_ n2_ n3_; (try clear hb); (try clear hb2); (try clear hk); (try clear hi); (try clear ho0)) | ((with_reducible refine gate_dst (N := 4) rfl ?_); refine box_event ?hg (N := 4) ?hd (cs := #[.int .i64 0, .slice none 0 0]) (t := 28) ?hr ?_; (case hd => rfl); (case hg => rfl); (case hr => first | (go_simp; done) | (go_simp; rfl)); intro gb732 hg w19 hbox hb; have n0_ := Aside0.mk (Kd.R_below (by (with_reducible repeat (first | apply Kd.R_alloc | apply Kd.R_drewN | apply Kd.R_drew)); exact HO725.out) hb); have n1_ := Aside0.mk (Kd.R_below (by (with_reducible repeat (first | apply Kd.R_alloc | apply Kd.R_drewN | apply Kd.R_drew)); exact HO729.out) hb); have n2_ := Aside0.mk (blk_below (g := gb720) (o := .cells #[.int .i64 a0_0, .slice A0_1 l0_1.length c0_1] 26 (0, 0)) (by (with_reducible repeat (first | refine blk_drewN ?_ _ | refine blk_drew ?_ | refine blk_alloc ?_ _)); exact BK720.out) hb); have n3_ := Aside0.mk (below_step (by repeat (first | (with_reducible first | exact HB.out | apply below_alloc | apply pw_below_drewN | apply below_drew1 | refine below_set ?_ GE720.out) | exact HB.out)) hb); have n4_ := Aside0.mk (hbox); have n5_ := Aside0.mk ((by rw [hg]; exact (below_size (by repeat (first | (with_reducible first | exact HB.out | apply below_alloc | apply pw_below_drewN | apply below_drew1 | refine below_set ?_ GE720.out) | exact HB.out))) : w.heap.size ≤ gb732)); have n6_ := Aside0.mk ((by rw [hg]; exact (below_size (by repeat (first | (with_reducible first | exact HB.out | apply below_alloc | apply pw_below_drewN | apply below_drew1 | refine below_set ?_ GE720.out) | exact HB.out))) : w.heap.size ≤ gb732)); have n7_ := Aside0.mk ((by rw [hg]; exact Nat.ne_of_lt (blk_lt (g := gb720) (o := .cells #[.int .i64 a0_0, .slice A0_1 l0_1.length c0_1] 26 (0, 0)) (by (with_reducible repeat (first | refine blk_drewN ?_ _ | refine blk_drew ?_ | refine blk_alloc ?_ _)); exact BK720.out)) : gb720 ≠ gb732)); have n8_ := Aside0.mk ((by rw [hg]; exact Nat.ne_of_gt (blk_lt (g := gb720) (o := .cells #[.int .i64 a0_0, .slice A0_1 l0_1.length c0_1] 26 (0, 0)) (by (with_reducible repeat (first | refine blk_drewN ?_ _ | refine blk_drew ?_ | refine blk_alloc ?_ _)); exact BK720.out)) : gb732 ≠ gb720)); clear HO725; clear HO729; clear BK720; clear HB; have HO725 := n0_; have HO729 := n1_; have BK720 := n2_; have HB := n3_; have BK732 := n4_; have GW732 := n5_; have GE732 := n6_; have NB720_732 := n7_; have NB732_720 := n8_; clear n0_ n1_ n2_ n3_ n4_ n5_ n6_ n7_ n8_; clear hb hbox hg; have hnb20 := NB732_720.out; have hnc20 := NB720_732.out; have hcz21_0 : w19.cell? ⟨gb732, 0, none⟩ = some (.int .i64 0) := (blk_cell BK732.out 0).trans rfl; have hcz21_1 : w19.cell? ⟨gb732, 1, none⟩ = some (.slice none 0 0) := (blk_cell BK732.out 1).trans rfl; have hfz21_0 := blk_frozen BK732.out 0; have hfz21_1 := blk_frozen BK732.out 1; obtain ⟨Ao22, co22, eo22⟩ := Kd.R_slice HO729.out; subst eo22; have hcz23_0 : w19.cell? ⟨gb720, 0, none⟩ = some (.int .i64 a0_0) := (blk_cell BK720.out 0).trans rfl; have hcz23_1 : w19.cell? ⟨gb720, 1, none⟩ = some (.slice A0_1 l0_1.length c0_1) := (blk_cell BK720.out 1).trans rfl; have hfz23_0 := blk_frozen BK720.out 0; have hfz23_1 := blk_frozen BK720.out 1) | ((with_reducible refine gate_callee (f := 19) rfl ?_); refine goesL_ (some 30) rfl rfl Try.func19 (by kernel_rfl) rfl #[.agg #[.int .i64 a0_0, .slice A0_1 l0_1.length c0_1]] rfl (by (try simp only [List.map_toArray, List.map_cons, List.map_nil]); first | done | rfl | (simp only [List.length_drop, List.length_take]; rfl)) ?_; (with_reducible refine (laws_toMatrix.calls k a0_0 _ _ l0_1 t733 t734 _ ?side1 ?side2 A9.out).mono ?_); (case side1 => exact Kd.C_below HR0_1.out (by repeat (first | (with_reducible first | exact HB.out | apply below_alloc | apply pw_below_drewN | apply below_drew1 | refine below_set ?_ GE720.out | refine below_set ?_ GE732.out) | exact HB.out))); (case side2 => exact HC0_1.out); rintro e w24 ⟨v735, rfl, ho0, hb⟩; refine ⟨_, rfl, ?_⟩; have n0_ := Aside0.mk (Kd.R_elder' (by (with_reducible repeat (first | apply Kd.R_alloc | apply Kd.R_drewN | apply Kd.R_drew)); exact (Kd.R_mono (Kd.R_far (p := ⟨gb732, 1, none⟩) (Kd.R_far (p := ⟨gb732, 0, none⟩) (Kd.R_types HO725.out BK732.out (by decide)) (fun _ hk => hk.2) (.int .i64 t726)) (fun _ hk => hk.2) (.slice Ao22 t727.length co22)) (fun _ h_ => h_.1))) (Kd.R_base ho0) hb); have n1_ := Aside0.mk (Kd.R_elder' (by (with_reducible repeat (first | apply Kd.R_alloc | apply Kd.R_drewN | apply Kd.R_drew)); exact (Kd.R_mono (Kd.R_far (p := ⟨gb732, 1, none⟩) (Kd.R_far (p := ⟨gb732, 0, none⟩) (Kd.R_types HO729.out BK732.out (by decide)) (fun _ hk => hk.2) (.int .i64 t726)) (fun _ hk => hk.2) (.slice Ao22 t727.length co22)) (fun _ h_ => h_.1))) (Kd.R_base ho0) hb); have n2_ := Aside0.mk (Kd.R_lower (Kd.R_new' (Kd.R_new' ho0 (Kd.R_lt (by (with_reducible repeat (first | apply Kd.R_alloc | apply Kd.R_drewN | apply Kd.R_drew)); exact (Kd.R_mono (Kd.R_far (p := ⟨gb732, 1, none⟩) (Kd.R_far (p := ⟨gb732, 0, none⟩) (Kd.R_types HO725.out BK732.out (by decide)) (fun _ hk => hk.2) (.int .i64 t726)) (fun _ hk => hk.2) (.slice Ao22 t727.length co22)) (fun _ h_ => h_.1))))) (Kd.R_lt (by (with_reducible repeat (first | apply Kd.R_alloc | apply Kd.R_drewN | apply Kd.R_drew)); exact (Kd.R_mono (Kd.R_far (p := ⟨gb732, 1, none⟩) (Kd.R_far (p := ⟨gb732, 0, none⟩) (Kd.R_types HO729.out BK732.out (by decide)) (fun _ hk => hk.2) (.int .i64 t726)) (fun _ hk => hk.2) (.slice Ao22 t727.length co22)) (fun _ h_ => h_.1))))) (below_size (by repeat (first | (with_reducible first | exact HB.out | apply below_alloc | apply pw_below_drewN | apply below_drew1 | refine below_set ?_ GE720.out | refine below_set ?_ GE732.out) | exact HB.out)))); have n3_ := Aside0.mk (blk_below (g := gb720) (o := .cells #[.int .i64 a0_0, .slice A0_1 l0_1.length c0_1] 26 (0, 0)) (by (with_reducible repeat (first | refine blk_drewN ?_ _ | refine blk_drew ?_ | refine blk_alloc ?_ _)); refine blk_far ?_ NB720_732.out _; (with_reducible repeat (first | refine blk_drewN ?_ _ | refine blk_drew ?_ | refine blk_alloc ?_ _)); refine blk_far ?_ NB720_732.out _; (with_reducible repeat (first | refine blk_drewN ?_ _ | refine blk_drew ?_ | refine blk_alloc ?_ _)); exact BK720.out) hb); have n4_ := Aside0.mk (blk_below (g := gb732) (o := .cells #[.int .i64 t726, .slice Ao22 t727.length co22] 28 (0, 0)) (by (with_reducible repeat (first | refine blk_drewN ?_ _ | refine blk_drew ?_ | refine blk_alloc ?_ _)); refine blk_put (cs := #[.int .i64 t726, .slice none 0 0]) ?_ 1 _ rfl; (with_reducible repeat (first | refine blk_drewN ?_ _ | refine blk_drew ?_ | refine blk_alloc ?_ _)); refine blk_put (cs := #[.int .i64 0, .slice none 0 0]) ?_ 0 _ rfl; (with_reducible repeat (first | refine blk_drewN ?_ _ | refine blk_drew ?_ | refine blk_alloc ?_ _)); exact BK732.out) hb); have n5_ := Aside0.mk (below_step (by repeat (first | (with_reducible first | exact HB.out | apply below_alloc | apply pw_below_drewN | apply below_drew1 | refine below_set ?_ GE720.out | refine below_set ?_ GE732.out) | exact HB.out)) hb); clear HO725; clear HO729; clear BK720; clear BK732; clear HB; have HO725 := n0_; have HO729 := n1_; have HO736 := n2_; have BK720 := n3_; have BK732 := n4_; have HB := n5_; clear n0_ n1_ n2_ n3_ n4_ n5_; (try clear hb); (try clear hb2); (try clear hk); (try clear hi); (try clear ho0)) | ((with_reducible refine gate_dst (N := 7) rfl ?_); refine box_event ?hg (N := 7) ?hd (cs := #[.int .i64 0, .slice none 0 0]) (t := 28) ?hr ?_; (case hd => rfl); (case hg => rfl); (case hr => first | (go_simp; done) | (go_simp; rfl)); intro gb737 hg w25 hbox hb; have n0_ := Aside0.mk (Kd.R_below (by (with_reducible repeat (first | apply Kd.R_alloc | apply Kd.R_drewN | apply Kd.R_drew)); exact HO725.out) hb); have n1_ := Aside0.mk (Kd.R_below (by (with_reducible repeat (first | apply Kd.R_alloc | apply Kd.R_drewN | apply Kd.R_drew)); exact HO729.out) hb); have n2_ := Aside0.mk (Kd.R_below (by (with_reducible repeat (first | apply Kd.R_alloc | apply Kd.R_drewN | apply Kd.R_drew)); exact HO736.out) hb); have n3_ := Aside0.mk (blk_below (g := gb720) (o := .cells #[.int .i64 a0_0, .slice A0_1 l0_1.length c0_1] 26 (0, 0)) (by (with_reducible repeat (first | refine blk_drewN ?_ _ | refine blk_drew ?_ | refine blk_alloc ?_ _)); exact BK720.out) hb); have n4_ := Aside0.mk (blk_below (g := gb732) (o := .cells #[.int .i64 t726, .slice Ao22 t727.length co22] 28 (0, 0)) (by (with_reducible repeat (first | refine blk_drewN ?_ _ | refine blk_drew ?_ | refine blk_alloc ?_ _)); exact BK732.out) hb); have n5_ := Aside0.mk (below_step (by repeat (first | (with_reducible first | exact HB.out | apply below_alloc | apply pw_below_drewN | apply below_drew1 | refine below_set ?_ GE720.out | refine below_set ?_ GE732.out) | exact HB.out)) hb); have n6_ := Aside0.mk (hbox); have n7_ := Aside0.mk ((by rw [hg]; exact (below_size (by repeat (first | (with_reducible first | exact HB.out | apply below_alloc | apply pw_below_drewN | apply below_drew1 | refine below_set ?_ GE720.out | refine below_set ?_ GE732.out) | exact HB.out))) : w.heap.size ≤ gb737)); have n8_ := Aside0.mk ((by rw [hg]; exact (below_size (by repeat (first | (with_reducible first | exact HB.out | apply below_alloc | apply pw_below_drewN | apply below_drew1 | refine below_set ?_ GE720.out | refine below_set ?_ GE732.out) | exact HB.out))) : w.heap.size ≤ gb737)); have n9_ := Aside0.mk ((by rw [hg]; exact Nat.ne_of_lt (blk_lt (g := gb720) (o := .cells #[.int .i64 a0_0, .slice A0_1 l0_1.length c0_1] 26 (0, 0)) (by (with_reducible repeat (first | refine blk_drewN ?_ _ | refine blk_drew ?_ | refine blk_alloc ?_ _)); exact BK720.out)) : gb720 ≠ gb737)); have n10_ := Aside0.mk ((by rw [hg]; exact Nat.ne_of_gt (blk_lt (g := gb720) (o := .cells #[.int .i64 a0_0, .slice A0_1 l0_1.length c0_1] 26 (0, 0)) (by (with_reducible repeat (first | refine blk_drewN ?_ _ | refine blk_drew ?_ | refine blk_alloc ?_ _)); exact BK720.out)) : gb737 ≠ gb720)); have n11_ := Aside0.mk ((by rw [hg]; exact Nat.ne_of_lt (blk_lt (g := gb732) (o := .cells #[.int .i64 t726, .slice Ao22 t727.length co22] 28 (0, 0)) (by (with_reducible repeat (first | refine blk_drewN ?_ _ | refine blk_drew ?_ | refine blk_alloc ?_ _)); exact BK732.out)) : gb732 ≠ gb737)); have n12_ := Aside0.mk ((by rw [hg]; exact Nat.ne_of_gt (blk_lt (g := gb732) (o := .cells #[.int .i64 t726, .slice Ao22 t727.length co22] 28 (0, 0)) (by (with_reducible repeat (first | refine blk_drewN ?_ _ | refine blk_drew ?_ | refine blk_alloc ?_ _)); exact BK732.out)) : gb737 ≠ gb732)); clear HO725; clear HO729; clear HO736; clear BK720; clear BK732; clear HB; have HO725 := n0_; have HO729 := n1_; have HO736 := n2_; have BK720 := n3_; have BK732 := n4_; have HB := n5_; have BK737 := n6_; have GW737 := n7_; have GE737 := n8_; have NB720_737 := n9_; have NB737_720 := n10_; have NB732_737 := n11_; have NB737_732 := n12_; clear n0_ n1_ n2_ n3_ n4_ n5_ n6_ n7_ n8_ n9_ n10_ n11_ n12_; clear hb hbox hg; have hnb26 := NB737_720.out; have hnc26 := NB720_737.out; have hnb27 := NB737_732.out; have hnc27 := NB732_737.out; have hcz28_0 : w25.cell? ⟨gb737, 0, none⟩ = some (.int .i64 0) := (blk_cell BK737.out 0).trans rfl; have hcz28_1 : w25.cell? ⟨gb737, 1, none⟩ = some (.slice none 0 0) := (blk_cell BK737.out 1).trans rfl; have hfz28_0 := blk_frozen BK737.out 0; have hfz28_1 := blk_frozen BK737.out 1; obtain ⟨Ao29, co29, eo29⟩ := Kd.R_slice HO736.out; subst eo29) | ((with_reducible refine gate_callee (f := 29) rfl ?_); refine goesL_ (some 33) rfl rfl Try.func29 (by kernel_rfl) rfl #[.agg #[.int .i64 t733, .slice Ao29 t734.length co29]] rfl (by (try simp only [List.map_toArray, List.map_cons, List.map_nil]); first | done | rfl | (simp only [List.length_drop, List.length_take]; rfl)) ?_; (with_reducible refine (impl_IdempotentOf.calls k t733 _ _ t734 t738 t739 t742 t743 _ ?side1 ?side2 A10.out).mono ?_); (case side1 => refine (Kd.R_reads' (e := 3) (base := w.heap.size) (ok := fun k_ => ((True ∧ some k_ ≠ (.slice Ao17 t723.length co17 : Value).ownBlock) ∧ some k_ ≠ (.slice Ao22 t727.length co22 : Value).ownBlock)) (n := t734.length) (c := co29) ?_).2.2; exact (by (with_reducible repeat (first | apply Kd.R_alloc | apply Kd.R_drewN | apply Kd.R_drew)); exact (Kd.R_mono (Kd.R_far (p := ⟨gb737, 1, none⟩) (Kd.R_far (p := ⟨gb737, 0, none⟩) (Kd.R_types HO736.out BK737.out (by decide)) (fun _ hk => hk.2) (.int .i64 t733)) (fun _ hk => hk.2) (.slice Ao29 t734.length co29)) (fun _ h_ => h_.1)))); (case side2 => exact (Kd.R_reads' HO736.out).2.1); rintro e w30 ⟨v740, rfl, ho0, hb⟩; refine ⟨_, rfl, ?_⟩; have n0_ := Aside0.mk (Kd.R_elder' (by (with_reducible repeat (first | apply Kd.R_alloc | apply Kd.R_drewN | apply Kd.R_drew)); exact (Kd.R_mono (Kd.R_far (p := ⟨gb737, 1, none⟩) (Kd.R_far (p := ⟨gb737, 0, none⟩) (Kd.R_types HO725.out BK737.out (by decide)) (fun _ hk => hk.2) (.int .i64 t733)) (fun _ hk => hk.2) (.slice Ao29 t734.length co29)) (fun _ h_ => h_.1))) (Kd.R_base ho0) hb); have n1_ := Aside0.mk (Kd.R_elder' (by (with_reducible repeat (first | apply Kd.R_alloc | apply Kd.R_drewN | apply Kd.R_drew)); exact (Kd.R_mono (Kd.R_far (p := ⟨gb737, 1, none⟩) (Kd.R_far (p := ⟨gb737, 0, none⟩) (Kd.R_types HO729.out BK737.out (by decide)) (fun _ hk => hk.2) (.int .i64 t733)) (fun _ hk => hk.2) (.slice Ao29 t734.length co29)) (fun _ h_ => h_.1))) (Kd.R_base ho0) hb); have n2_ := Aside0.mk (Kd.R_elder' (by (with_reducible repeat (first | apply Kd.R_alloc | apply Kd.R_drewN | apply Kd.R_drew)); exact (Kd.R_mono (Kd.R_far (p := ⟨gb737, 1, none⟩) (Kd.R_far (p := ⟨gb737, 0, none⟩) (Kd.R_types HO736.out BK737.out (by decide)) (fun _ hk => hk.2) (.int .i64 t733)) (fun _ hk => hk.2) (.slice Ao29 t734.length co29)) (fun _ h_ => h_.1))) (Kd.R_base ho0) hb); have n3_ := Aside0.mk (Kd.R_lower (Kd.R_new' (Kd.R_new' (Kd.R_new' ho0 (Kd.R_lt (by (with_reducible repeat (first | apply Kd.R_alloc | apply Kd.R_drewN | apply Kd.R_drew)); exact (Kd.R_mono (Kd.R_far (p := ⟨gb737, 1, none⟩) (Kd.R_far (p := ⟨gb737, 0, none⟩) (Kd.R_types HO725.out BK737.out (by decide)) (fun _ hk => hk.2) (.int .i64 t733)) (fun _ hk => hk.2) (.slice Ao29 t734.length co29)) (fun _ h_ => h_.1))))) (Kd.R_lt (by (with_reducible repeat (first | apply Kd.R_alloc | apply Kd.R_drewN | apply Kd.R_drew)); exact (Kd.R_mono (Kd.R_far (p := ⟨gb737, 1, none⟩) (Kd.R_far (p := ⟨gb737, 0, none⟩) (Kd.R_types HO729.out BK737.out (by decide)) (fun _ hk => hk.2) (.int .i64 t733)) (fun _ hk => hk.2) (.slice Ao29 t734.length co29)) (fun _ h_ => h_.1))))) (Kd.R_lt (by (with_reducible repeat (first | apply Kd.R_alloc | apply Kd.R_drewN | apply Kd.R_drew)); exact (Kd.R_mono (Kd.R_far (p := ⟨gb737, 1, none⟩) (Kd.R_far (p := ⟨gb737, 0, none⟩) (Kd.R_types HO736.out BK737.out (by decide)) (fun _ hk => hk.2) (.int .i64 t733)) (fun _ hk => hk.2) (.slice Ao29 t734.length co29)) (fun _ h_ => h_.1))))) (below_size (by repeat (first | (with_reducible first | exact HB.out | apply below_alloc | apply pw_below_drewN | apply below_drew1 | refine below_set ?_ GE720.out | refine below_set ?_ GE732.out | refine below_set ?_ GE737.out) | exact HB.out)))); have n4_ := Aside0.mk (blk_below (g := gb720) (o := .cells #[.int .i64 a0_0, .slice A0_1 l0_1.length c0_1] 26 (0, 0)) (by (with_reducible repeat (first | refine blk_drewN ?_ _ | refine blk_drew ?_ | refine blk_alloc ?_ _)); refine blk_far ?_ NB720_737.out _; (with_reducible repeat (first | refine blk_drewN ?_ _ | refine blk_drew ?_ | refine blk_alloc ?_ _)); refine blk_far ?_ NB720_737.out _; (with_reducible repeat (first | refine blk_drewN ?_ _ | refine blk_drew ?_ | refine blk_alloc ?_ _)); exact BK720.out) hb); have n5_ := Aside0.mk (blk_below (g := gb732) (o := .cells #[.int .i64 t726, .slice Ao22 t727.length co22] 28 (0, 0)) (by (with_reducible repeat (first | refine blk_drewN ?_ _ | refine blk_drew ?_ | refine blk_alloc ?_ _)); refine blk_far ?_ NB732_737.out _; (with_reducible repeat (first | refine blk_drewN ?_ _ | refine blk_drew ?_ | refine blk_alloc ?_ _)); refine blk_far ?_ NB732_737.out _; (with_reducible repeat (first | refine blk_drewN ?_ _ | refine blk_drew ?_ | refine blk_alloc ?_ _)); exact BK732.out) hb); have n6_ := Aside0.mk (blk_below (g := gb737) (o := .cells #[.int .i64 t733, .slice Ao29 t734.length co29] 28 (0, 0)) (by (with_reducible repeat (first | refine blk_drewN ?_ _ | refine blk_drew ?_ | refine blk_alloc ?_ _)); refine blk_put (cs := #[.int .i64 t733, .slice none 0 0]) ?_ 1 _ rfl; (with_reducible repeat (first | refine blk_drewN ?_ _ | refine blk_drew ?_ | refine blk_alloc ?_ _)); refine blk_put (cs := #[.int .i64 0, .slice none 0 0]) ?_ 0 _ rfl; (with_reducible repeat (first | refine blk_drewN ?_ _ | refine blk_drew ?_ | refine blk_alloc ?_ _)); exact BK737.out) hb); have n7_ := Aside0.mk (below_step (by repeat (first | (with_reducible first | exact HB.out | apply below_alloc | apply pw_below_drewN | apply below_drew1 | refine below_set ?_ GE720.out | refine below_set ?_ GE732.out | refine below_set ?_ GE737.out) | exact HB.out)) hb); clear HO725; clear HO729; clear HO736; clear BK720; clear BK732; clear BK737; clear HB; have HO725 := n0_; have HO729 := n1_; have HO736 := n2_; have HO741 := n3_; have BK720 := n4_; have BK732 := n5_; have BK737 := n6_; have HB := n7_; clear n0_ n1_ n2_ n3_ n4_ n5_ n6_ n7_; (try clear hb); (try clear hb2); (try clear hk); (try clear hi); (try clear ho0)) | ((with_reducible refine gate_dst (N := 8) rfl ?_); refine box_event ?hg (N := 8) ?hd (cs := #[.int .i64 0, .slice none 0 0]) (t := 28) ?hr ?_; (case hd => rfl); (case hg => rfl); (case hr => first | (go_simp; done) | (go_simp; rfl)); intro gb744 hg w31 hbox hb; have n0_ := Aside0.mk (Kd.R_below (by (with_reducible repeat (first | apply Kd.R_alloc | apply Kd.R_drewN | apply Kd.R_drew)); exact HO725.out) hb); have n1_ := Aside0.mk (Kd.R_below (by (with_reducible repeat (first | apply Kd.R_alloc | apply Kd.R_drewN | apply Kd.R_drew)); exact HO729.out) hb); have n2_ := Aside0.mk (Kd.R_below (by (with_reducible repeat (first | apply Kd.R_alloc | apply Kd.R_drewN | apply Kd.R_drew)); exact HO736.out) hb); have n3_ := Aside0.mk (Kd.R_below (by (with_reducible repeat (first | apply Kd.R_alloc | apply Kd.R_drewN | apply Kd.R_drew)); exact HO741.out) hb); have n4_ := Aside0.mk (blk_below (g := gb720) (o := .cells #[.int .i64 a0_0, .slice A0_1 l0_1.length c0_1] 26 (0, 0)) (by (with_reducible repeat (first | refine blk_drewN ?_ _ | refine blk_drew ?_ | refine blk_alloc ?_ _)); exact BK720.out) hb); have n5_ := Aside0.mk (blk_below (g := gb732) (o := .cells #[.int .i64 t726, .slice Ao22 t727.length co22] 28 (0, 0)) (by (with_reducible repeat (first | refine blk_drewN ?_ _ | refine blk_drew ?_ | refine blk_alloc ?_ _)); exact BK732.out) hb); have n6_ := Aside0.mk (blk_below (g := gb737) (o := .cells #[.int .i64 t733, .slice Ao29 t734.length co29] 28 (0, 0)) (by (with_reducible repeat (first | refine blk_drewN ?_ _ | refine blk_drew ?_ | refine blk_alloc ?_ _)); exact BK737.out) hb); have n7_ := Aside0.mk (below_step (by repeat (first | (with_reducible first | exact HB.out | apply below_alloc | apply pw_below_drewN | apply below_drew1 | refine below_set ?_ GE720.out | refine below_set ?_ GE732.out | refine below_set ?_ GE737.out) | exact HB.out)) hb); have n8_ := Aside0.mk (hbox); have n9_ := Aside0.mk ((by rw [hg]; exact (below_size (by repeat (first | (with_reducible first | exact HB.out | apply below_alloc | apply pw_below_drewN | apply below_drew1 | refine below_set ?_ GE720.out | refine below_set ?_ GE732.out | refine below_set ?_ GE737.out) | exact HB.out))) : w.heap.size ≤ gb744)); have n10_ := Aside0.mk ((by rw [hg]; exact (below_size (by repeat (first | (with_reducible first | exact HB.out | apply below_alloc | apply pw_below_drewN | apply below_drew1 | refine below_set ?_ GE720.out | refine below_set ?_ GE732.out | refine below_set ?_ GE737.out) | exact HB.out))) : w.heap.size ≤ gb744)); have n11_ := Aside0.mk ((by rw [hg]; exact Nat.ne_of_lt (blk_lt (g := gb720) (o := .cells #[.int .i64 a0_0, .slice A0_1 l0_1.length c0_1] 26 (0, 0)) (by (with_reducible repeat (first | refine blk_drewN ?_ _ | refine blk_drew ?_ | refine blk_alloc ?_ _)); exact BK720.out)) : gb720 ≠ gb744)); have n12_ := Aside0.mk ((by rw [hg]; exact Nat.ne_of_gt (blk_lt (g := gb720) (o := .cells #[.int .i64 a0_0, .slice A0_1 l0_1.length c0_1] 26 (0, 0)) (by (with_reducible repeat (first | refine blk_drewN ?_ _ | refine blk_drew ?_ | refine blk_alloc ?_ _)); exact BK720.out)) : gb744 ≠ gb720)); have n13_ := Aside0.mk ((by rw [hg]; exact Nat.ne_of_lt (blk_lt (g := gb732) (o := .cells #[.int .i64 t726, .slice Ao22 t727.length co22] 28 (0, 0)) (by (with_reducible repeat (first | refine blk_drewN ?_ _ | refine blk_drew ?_ | refine blk_alloc ?_ _)); exact BK732.out)) : gb732 ≠ gb744)); have n14_ := Aside0.mk ((by rw [hg]; exact Nat.ne_of_gt (blk_lt (g := gb732) (o := .cells #[.int .i64 t726, .slice Ao22 t727.length co22] 28 (0, 0)) (by (with_reducible repeat (first | refine blk_drewN ?_ _ | refine blk_drew ?_ | refine blk_alloc ?_ _)); exact BK732.out)) : gb744 ≠ gb732)); have n15_ := Aside0.mk ((by rw [hg]; exact Nat.ne_of_lt (blk_lt (g := gb737) (o := .cells #[.int .i64 t733, .slice Ao29 t734.length co29] 28 (0, 0)) (by (with_reducible repeat (first | refine blk_drewN ?_ _ | refine blk_drew ?_ | refine blk_alloc ?_ _)); exact BK737.out)) : gb737 ≠ gb744)); have n16_ := Aside0.mk ((by rw [hg]; exact Nat.ne_of_gt (blk_lt (g := gb737) (o := .cells #[.int .i64 t733, .slice Ao29 t734.length co29] 28 (0, 0)) (by (with_reducible repeat (first | refine blk_drewN ?_ _ | refine blk_drew ?_ | refine blk_alloc ?_ _)); exact BK737.out)) : gb744 ≠ gb737)); clear HO725; clear HO729; clear HO736; clear HO741; clear BK720; clear BK732; clear BK737; clear HB; have HO725 := n0_; have HO729 := n1_; have HO736 := n2_; have HO741 := n3_; have BK720 := n4_; have BK732 := n5_; have BK737 := n6_; have HB := n7_; have BK744 := n8_; have GW744 := n9_; have GE744 := n10_; have NB720_744 := n11_; have NB744_720 := n12_; have NB732_744 := n13_; have NB744_732 := n14_; have NB737_744 := n15_; have NB744_737 := n16_; clear n0_ n1_ n2_ n3_ n4_ n5_ n6_ n7_ n8_ n9_ n10_ n11_ n12_ n13_ n14_ n15_ n16_; clear hb hbox hg; have hnb32 := NB744_720.out; have hnc32 := NB720_744.out; have hnb33 := NB744_732.out; have hnc33 := NB732_744.out; have hnb34 := NB744_737.out; have hnc34 := NB737_744.out; have hcz35_0 : w31.cell? ⟨gb744, 0, none⟩ = some (.int .i64 0) := (blk_cell BK744.out 0).trans rfl; have hcz35_1 : w31.cell? ⟨gb744, 1, none⟩ = some (.slice none 0 0) := (blk_cell BK744.out 1).trans rfl; have hfz35_0 := blk_frozen BK744.out 0; have hfz35_1 := blk_frozen BK744.out 1; obtain ⟨Ao36, co36, eo36⟩ := Kd.R_slice HO741.out; subst eo36))
    (try simp only [Act.put, List.setIfInBounds_toArray, List.set_cons_zero, List.set_cons_succ])
    go_cut [50] (fun v50 wc => ∃ (kq : Nat) (x50_10 : Bool), v50 = .bool x50_10 ∧ Aside0 (laws_FnExactIdempotentOf.j0 kq t730 t731 t742 t743 x50_10 a0_0 l0_1 t726 t727 t733 t734 t738 t739 = some r) ∧ Aside0 (kq ≤ k) ∧ Aside0 (Kd.R (Kd.int .i64) 3 wc w.heap.size (fun k_ => some k_ ≠ ((.slice Ao29 t734.length co29) : Value).ownBlock ∧ some k_ ≠ ((.slice Ao36 t739.length co36) : Value).ownBlock) (.slice Ao22 t727.length co22) t727) ∧ Aside0 (Kd.R (Kd.int .i64) 3 wc w.heap.size (fun k_ => some k_ ≠ ((.slice Ao22 t727.length co22) : Value).ownBlock ∧ some k_ ≠ ((.slice Ao36 t739.length co36) : Value).ownBlock) (.slice Ao29 t734.length co29) t734) ∧ Aside0 (Kd.R (Kd.int .i64) 3 wc w.heap.size (fun k_ => some k_ ≠ ((.slice Ao22 t727.length co22) : Value).ownBlock ∧ some k_ ≠ ((.slice Ao29 t734.length co29) : Value).ownBlock) (.slice Ao36 t739.length co36) t739) ∧ Aside0 (wc.heap[gb720]? = some (.cells #[.int .i64 a0_0, (.slice A0_1 l0_1.length c0_1)] 26 (0, 0))) ∧ Aside0 (wc.heap[gb732]? = some (.cells #[.int .i64 t726, (.slice Ao22 t727.length co22)] 28 (0, 0))) ∧ Aside0 (wc.heap[gb737]? = some (.cells #[.int .i64 t733, (.slice Ao29 t734.length co29)] 28 (0, 0))) ∧ Aside0 (wc.heap[gb744]? = some (.cells #[.int .i64 t738, (.slice Ao36 t739.length co36)] 28 (0, 0))) ∧ Aside0 (Below w.heap.size w wc))
    case first =>
      have H := HC11.out
      clear HC11
      replace H := Option.bind_eq_some_iff.mp H
      obtain ⟨t745, A370, H⟩ := H
      replace H : (if t745 = true then (if t742 = t730 then (laws_FnExactIdempotentOf.j0 k t730 t731 t742 t743 (t743 != t731) a0_0 l0_1 t726 t727 t733 t734 t738 t739) else (laws_FnExactIdempotentOf.j0 k t730 t731 t742 t743 true a0_0 l0_1 t726 t727 t733 t734 t738 t739)) else (laws_FnExactIdempotentOf.j0 k t730 t731 t742 t743 true a0_0 l0_1 t726 t727 t733 t734 t738 t739)) = some r := H
      have A37 := Aside0.mk A370
      clear A370
      by_cases c38 : t745 = true
      · subst c38
        have H1 : (if t742 = t730 then (laws_FnExactIdempotentOf.j0 k t730 t731 t742 t743 (t743 != t731) a0_0 l0_1 t726 t727 t733 t734 t738 t739) else (laws_FnExactIdempotentOf.j0 k t730 t731 t742 t743 true a0_0 l0_1 t726 t727 t733 t734 t738 t739)) = some r := by rw [if_pos rfl] at H; exact H
        clear H
        have H := H1
        clear H1
        by_cases c39 : t742 = t730
        · rw [if_pos c39] at H
          have c39b0 : (t742 == t730) = true := beq_iff_eq.mpr c39
          have c39b1 : (t742 != t730) = false := bne_eq_false_iff_eq.mpr c39
          clear c39
          (first | rw [c39b0] | (simp only [i64_w, i32_w]; rw [c39b0]) | skip)
          have H' := Aside0.mk H
          clear H
          have hnb40 := NB744_720.out
          have hnc40 := NB720_744.out
          have hnb41 := NB744_732.out
          have hnc41 := NB732_744.out
          have hnb42 := NB744_737.out
          have hnc42 := NB737_744.out
          have hcz43_0 : w31.cell? ⟨gb744, 0, none⟩ = some (.int .i64 0) := (blk_cell BK744.out 0).trans rfl
          have hcz43_1 : w31.cell? ⟨gb744, 1, none⟩ = some (.slice none 0 0) := (blk_cell BK744.out 1).trans rfl
          have hfz43_0 := blk_frozen BK744.out 0
          have hfz43_1 := blk_frozen BK744.out 1
          have hnb44 := NB732_720.out
          have hnc44 := NB720_732.out
          have hnb45 := NB732_737.out
          have hnc45 := NB737_732.out
          have hcz46_0 : w31.cell? ⟨gb732, 0, none⟩ = some (.int .i64 t726) := (blk_cell BK732.out 0).trans rfl
          have hcz46_1 : w31.cell? ⟨gb732, 1, none⟩ = some (.slice Ao22 t727.length co22) := (blk_cell BK732.out 1).trans rfl
          have hfz46_0 := blk_frozen BK732.out 0
          have hfz46_1 := blk_frozen BK732.out 1
          go_wp2_with (first | ((with_reducible refine gate_callee (f := 21) rfl ?_); refine goesL_ (some 39) rfl rfl Try.func21 (by kernel_rfl) rfl #[.agg #[.int .i64 t738, .slice Ao36 t739.length co36], .agg #[.int .i64 t726, .slice Ao22 t727.length co22]] rfl (by (try simp only [List.map_toArray, List.map_cons, List.map_nil]); first | done | rfl | (simp only [List.length_drop, List.length_take]; rfl)) ?_; (with_reducible refine (laws_eqMatrix.calls k t738 _ _ t739 t726 _ _ t727 true _ ?side1 ?side2 ?side3 ?side4 A37.out).mono ?_); (case side1 => refine (Kd.R_reads' (e := 3) (base := w.heap.size) (ok := fun k_ => (((True ∧ some k_ ≠ (.slice Ao17 t723.length co17 : Value).ownBlock) ∧ some k_ ≠ (.slice Ao22 t727.length co22 : Value).ownBlock) ∧ some k_ ≠ (.slice Ao29 t734.length co29 : Value).ownBlock)) (n := t739.length) (c := co36) ?_).2.2; exact (by (with_reducible repeat (first | apply Kd.R_alloc | apply Kd.R_drewN | apply Kd.R_drew)); exact (Kd.R_mono (Kd.R_far (p := ⟨gb744, 1, none⟩) (Kd.R_far (p := ⟨gb744, 0, none⟩) (Kd.R_types HO741.out BK744.out (by decide)) (fun _ hk => hk.2) (.int .i64 t738)) (fun _ hk => hk.2) (.slice Ao36 t739.length co36)) (fun _ h_ => h_.1)))); (case side2 => exact (Kd.R_reads' HO741.out).2.1); (case side3 => refine (Kd.R_reads' (e := 3) (base := w.heap.size) (ok := fun k_ => (((True ∧ some k_ ≠ (.slice Ao17 t723.length co17 : Value).ownBlock) ∧ some k_ ≠ (.slice Ao29 t734.length co29 : Value).ownBlock) ∧ some k_ ≠ (.slice Ao36 t739.length co36 : Value).ownBlock)) (n := t727.length) (c := co22) ?_).2.2; exact (by (with_reducible repeat (first | apply Kd.R_alloc | apply Kd.R_drewN | apply Kd.R_drew)); exact (Kd.R_mono (Kd.R_far (p := ⟨gb744, 1, none⟩) (Kd.R_far (p := ⟨gb744, 0, none⟩) (Kd.R_types HO729.out BK744.out (by decide)) (fun _ hk => hk.2) (.int .i64 t738)) (fun _ hk => hk.2) (.slice Ao36 t739.length co36)) (fun _ h_ => h_.1)))); (case side4 => exact (Kd.R_reads' HO729.out).2.1); rintro e w47 ⟨rfl, hb⟩; refine ⟨_, rfl, ?_⟩; have n0_ := Aside0.mk (Kd.R_below (by (with_reducible repeat (first | apply Kd.R_alloc | apply Kd.R_drewN | apply Kd.R_drew)); exact (Kd.R_mono (Kd.R_far (p := ⟨gb744, 1, none⟩) (Kd.R_far (p := ⟨gb744, 0, none⟩) (Kd.R_types HO725.out BK744.out (by decide)) (fun _ hk => hk.2) (.int .i64 t738)) (fun _ hk => hk.2) (.slice Ao36 t739.length co36)) (fun _ h_ => h_.1))) hb); have n1_ := Aside0.mk (Kd.R_below (by (with_reducible repeat (first | apply Kd.R_alloc | apply Kd.R_drewN | apply Kd.R_drew)); exact (Kd.R_mono (Kd.R_far (p := ⟨gb744, 1, none⟩) (Kd.R_far (p := ⟨gb744, 0, none⟩) (Kd.R_types HO729.out BK744.out (by decide)) (fun _ hk => hk.2) (.int .i64 t738)) (fun _ hk => hk.2) (.slice Ao36 t739.length co36)) (fun _ h_ => h_.1))) hb); have n2_ := Aside0.mk (Kd.R_below (by (with_reducible repeat (first | apply Kd.R_alloc | apply Kd.R_drewN | apply Kd.R_drew)); exact (Kd.R_mono (Kd.R_far (p := ⟨gb744, 1, none⟩) (Kd.R_far (p := ⟨gb744, 0, none⟩) (Kd.R_types HO736.out BK744.out (by decide)) (fun _ hk => hk.2) (.int .i64 t738)) (fun _ hk => hk.2) (.slice Ao36 t739.length co36)) (fun _ h_ => h_.1))) hb); have n3_ := Aside0.mk (Kd.R_below (by (with_reducible repeat (first | apply Kd.R_alloc | apply Kd.R_drewN | apply Kd.R_drew)); exact (Kd.R_mono (Kd.R_far (p := ⟨gb744, 1, none⟩) (Kd.R_far (p := ⟨gb744, 0, none⟩) (Kd.R_types HO741.out BK744.out (by decide)) (fun _ hk => hk.2) (.int .i64 t738)) (fun _ hk => hk.2) (.slice Ao36 t739.length co36)) (fun _ h_ => h_.1))) hb); have n4_ := Aside0.mk (blk_below (g := gb720) (o := .cells #[.int .i64 a0_0, .slice A0_1 l0_1.length c0_1] 26 (0, 0)) (by (with_reducible repeat (first | refine blk_drewN ?_ _ | refine blk_drew ?_ | refine blk_alloc ?_ _)); refine blk_far ?_ NB720_744.out _; (with_reducible repeat (first | refine blk_drewN ?_ _ | refine blk_drew ?_ | refine blk_alloc ?_ _)); refine blk_far ?_ NB720_744.out _; (with_reducible repeat (first | refine blk_drewN ?_ _ | refine blk_drew ?_ | refine blk_alloc ?_ _)); exact BK720.out) hb); have n5_ := Aside0.mk (blk_below (g := gb732) (o := .cells #[.int .i64 t726, .slice Ao22 t727.length co22] 28 (0, 0)) (by (with_reducible repeat (first | refine blk_drewN ?_ _ | refine blk_drew ?_ | refine blk_alloc ?_ _)); refine blk_far ?_ NB732_744.out _; (with_reducible repeat (first | refine blk_drewN ?_ _ | refine blk_drew ?_ | refine blk_alloc ?_ _)); refine blk_far ?_ NB732_744.out _; (with_reducible repeat (first | refine blk_drewN ?_ _ | refine blk_drew ?_ | refine blk_alloc ?_ _)); exact BK732.out) hb); have n6_ := Aside0.mk (blk_below (g := gb737) (o := .cells #[.int .i64 t733, .slice Ao29 t734.length co29] 28 (0, 0)) (by (with_reducible repeat (first | refine blk_drewN ?_ _ | refine blk_drew ?_ | refine blk_alloc ?_ _)); refine blk_far ?_ NB737_744.out _; (with_reducible repeat (first | refine blk_drewN ?_ _ | refine blk_drew ?_ | refine blk_alloc ?_ _)); refine blk_far ?_ NB737_744.out _; (with_reducible repeat (first | refine blk_drewN ?_ _ | refine blk_drew ?_ | refine blk_alloc ?_ _)); exact BK737.out) hb); have n7_ := Aside0.mk (blk_below (g := gb744) (o := .cells #[.int .i64 t738, .slice Ao36 t739.length co36] 28 (0, 0)) (by (with_reducible repeat (first | refine blk_drewN ?_ _ | refine blk_drew ?_ | refine blk_alloc ?_ _)); refine blk_put (cs := #[.int .i64 t738, .slice none 0 0]) ?_ 1 _ rfl; (with_reducible repeat (first | refine blk_drewN ?_ _ | refine blk_drew ?_ | refine blk_alloc ?_ _)); refine blk_put (cs := #[.int .i64 0, .slice none 0 0]) ?_ 0 _ rfl; (with_reducible repeat (first | refine blk_drewN ?_ _ | refine blk_drew ?_ | refine blk_alloc ?_ _)); exact BK744.out) hb); have n8_ := Aside0.mk (below_step (by repeat (first | (with_reducible first | exact HB.out | apply below_alloc | apply pw_below_drewN | apply below_drew1 | refine below_set ?_ GE720.out | refine below_set ?_ GE732.out | refine below_set ?_ GE737.out | refine below_set ?_ GE744.out) | exact HB.out)) hb); clear HO725; clear HO729; clear HO736; clear HO741; clear BK720; clear BK732; clear BK737; clear BK744; clear HB; have HO725 := n0_; have HO729 := n1_; have HO736 := n2_; have HO741 := n3_; have BK720 := n4_; have BK732 := n5_; have BK737 := n6_; have BK744 := n7_; have HB := n8_; clear n0_ n1_ n2_ n3_ n4_ n5_ n6_ n7_ n8_; (try clear hb); (try clear hb2); (try clear hk); (try clear hi)))
          go_meet
          case rel => exact ⟨_, ((t743 != t731)), (by first | rfl | (simp; done) | (simp [*]; done)), H', ⟨by first | omega | exact Nat.le_refl _⟩, ⟨by (with_reducible repeat (first | apply Kd.R_alloc | apply Kd.R_drewN | apply Kd.R_drew)); exact Kd.R_mono HO729.out (fun _ hk => ⟨hk.1.2, hk.2⟩)⟩, ⟨by (with_reducible repeat (first | apply Kd.R_alloc | apply Kd.R_drewN | apply Kd.R_drew)); exact Kd.R_mono HO736.out (fun _ hk => ⟨hk.1.2, hk.2⟩)⟩, ⟨by (with_reducible repeat (first | apply Kd.R_alloc | apply Kd.R_drewN | apply Kd.R_drew)); exact Kd.R_mono HO741.out (fun _ hk => ⟨hk.1.2, hk.2⟩)⟩, ⟨by (with_reducible repeat (first | refine blk_drewN ?_ _ | refine blk_drew ?_ | refine blk_alloc ?_ _)); exact BK720.out⟩, ⟨by (with_reducible repeat (first | refine blk_drewN ?_ _ | refine blk_drew ?_ | refine blk_alloc ?_ _)); exact BK732.out⟩, ⟨by (with_reducible repeat (first | refine blk_drewN ?_ _ | refine blk_drew ?_ | refine blk_alloc ?_ _)); exact BK737.out⟩, ⟨by (with_reducible repeat (first | refine blk_drewN ?_ _ | refine blk_drew ?_ | refine blk_alloc ?_ _)); exact BK744.out⟩, ⟨by repeat (first | (with_reducible first | exact HB.out | apply below_alloc | apply pw_below_drewN | apply below_drew1 | refine below_set ?_ GE720.out | refine below_set ?_ GE732.out | refine below_set ?_ GE737.out | refine below_set ?_ GE744.out) | exact HB.out)⟩⟩
        · rw [if_neg c39] at H
          have c39b0 : (t742 == t730) = false := beq_eq_false_iff_ne.mpr c39
          have c39b1 : (t742 != t730) = true := bne_iff_ne.mpr c39
          (first | rw [c39b0] | (simp only [i64_w, i32_w]; rw [c39b0]) | skip)
          have H' := Aside0.mk H
          clear H
          have hnb48 := NB744_720.out
          have hnc48 := NB720_744.out
          have hnb49 := NB744_732.out
          have hnc49 := NB732_744.out
          have hnb50 := NB744_737.out
          have hnc50 := NB737_744.out
          have hcz51_0 : w31.cell? ⟨gb744, 0, none⟩ = some (.int .i64 0) := (blk_cell BK744.out 0).trans rfl
          have hcz51_1 : w31.cell? ⟨gb744, 1, none⟩ = some (.slice none 0 0) := (blk_cell BK744.out 1).trans rfl
          have hfz51_0 := blk_frozen BK744.out 0
          have hfz51_1 := blk_frozen BK744.out 1
          have hnb52 := NB732_720.out
          have hnc52 := NB720_732.out
          have hnb53 := NB732_737.out
          have hnc53 := NB737_732.out
          have hcz54_0 : w31.cell? ⟨gb732, 0, none⟩ = some (.int .i64 t726) := (blk_cell BK732.out 0).trans rfl
          have hcz54_1 : w31.cell? ⟨gb732, 1, none⟩ = some (.slice Ao22 t727.length co22) := (blk_cell BK732.out 1).trans rfl
          have hfz54_0 := blk_frozen BK732.out 0
          have hfz54_1 := blk_frozen BK732.out 1
          go_wp2_with (first | ((with_reducible refine gate_callee (f := 21) rfl ?_); refine goesL_ (some 39) rfl rfl Try.func21 (by kernel_rfl) rfl #[.agg #[.int .i64 t738, .slice Ao36 t739.length co36], .agg #[.int .i64 t726, .slice Ao22 t727.length co22]] rfl (by (try simp only [List.map_toArray, List.map_cons, List.map_nil]); first | done | rfl | (simp only [List.length_drop, List.length_take]; rfl)) ?_; (with_reducible refine (laws_eqMatrix.calls k t738 _ _ t739 t726 _ _ t727 true _ ?side1 ?side2 ?side3 ?side4 A37.out).mono ?_); (case side1 => refine (Kd.R_reads' (e := 3) (base := w.heap.size) (ok := fun k_ => (((True ∧ some k_ ≠ (.slice Ao17 t723.length co17 : Value).ownBlock) ∧ some k_ ≠ (.slice Ao22 t727.length co22 : Value).ownBlock) ∧ some k_ ≠ (.slice Ao29 t734.length co29 : Value).ownBlock)) (n := t739.length) (c := co36) ?_).2.2; exact (by (with_reducible repeat (first | apply Kd.R_alloc | apply Kd.R_drewN | apply Kd.R_drew)); exact (Kd.R_mono (Kd.R_far (p := ⟨gb744, 1, none⟩) (Kd.R_far (p := ⟨gb744, 0, none⟩) (Kd.R_types HO741.out BK744.out (by decide)) (fun _ hk => hk.2) (.int .i64 t738)) (fun _ hk => hk.2) (.slice Ao36 t739.length co36)) (fun _ h_ => h_.1)))); (case side2 => exact (Kd.R_reads' HO741.out).2.1); (case side3 => refine (Kd.R_reads' (e := 3) (base := w.heap.size) (ok := fun k_ => (((True ∧ some k_ ≠ (.slice Ao17 t723.length co17 : Value).ownBlock) ∧ some k_ ≠ (.slice Ao29 t734.length co29 : Value).ownBlock) ∧ some k_ ≠ (.slice Ao36 t739.length co36 : Value).ownBlock)) (n := t727.length) (c := co22) ?_).2.2; exact (by (with_reducible repeat (first | apply Kd.R_alloc | apply Kd.R_drewN | apply Kd.R_drew)); exact (Kd.R_mono (Kd.R_far (p := ⟨gb744, 1, none⟩) (Kd.R_far (p := ⟨gb744, 0, none⟩) (Kd.R_types HO729.out BK744.out (by decide)) (fun _ hk => hk.2) (.int .i64 t738)) (fun _ hk => hk.2) (.slice Ao36 t739.length co36)) (fun _ h_ => h_.1)))); (case side4 => exact (Kd.R_reads' HO729.out).2.1); rintro e w55 ⟨rfl, hb⟩; refine ⟨_, rfl, ?_⟩; have n0_ := Aside0.mk (Kd.R_below (by (with_reducible repeat (first | apply Kd.R_alloc | apply Kd.R_drewN | apply Kd.R_drew)); exact (Kd.R_mono (Kd.R_far (p := ⟨gb744, 1, none⟩) (Kd.R_far (p := ⟨gb744, 0, none⟩) (Kd.R_types HO725.out BK744.out (by decide)) (fun _ hk => hk.2) (.int .i64 t738)) (fun _ hk => hk.2) (.slice Ao36 t739.length co36)) (fun _ h_ => h_.1))) hb); have n1_ := Aside0.mk (Kd.R_below (by (with_reducible repeat (first | apply Kd.R_alloc | apply Kd.R_drewN | apply Kd.R_drew)); exact (Kd.R_mono (Kd.R_far (p := ⟨gb744, 1, none⟩) (Kd.R_far (p := ⟨gb744, 0, none⟩) (Kd.R_types HO729.out BK744.out (by decide)) (fun _ hk => hk.2) (.int .i64 t738)) (fun _ hk => hk.2) (.slice Ao36 t739.length co36)) (fun _ h_ => h_.1))) hb); have n2_ := Aside0.mk (Kd.R_below (by (with_reducible repeat (first | apply Kd.R_alloc | apply Kd.R_drewN | apply Kd.R_drew)); exact (Kd.R_mono (Kd.R_far (p := ⟨gb744, 1, none⟩) (Kd.R_far (p := ⟨gb744, 0, none⟩) (Kd.R_types HO736.out BK744.out (by decide)) (fun _ hk => hk.2) (.int .i64 t738)) (fun _ hk => hk.2) (.slice Ao36 t739.length co36)) (fun _ h_ => h_.1))) hb); have n3_ := Aside0.mk (Kd.R_below (by (with_reducible repeat (first | apply Kd.R_alloc | apply Kd.R_drewN | apply Kd.R_drew)); exact (Kd.R_mono (Kd.R_far (p := ⟨gb744, 1, none⟩) (Kd.R_far (p := ⟨gb744, 0, none⟩) (Kd.R_types HO741.out BK744.out (by decide)) (fun _ hk => hk.2) (.int .i64 t738)) (fun _ hk => hk.2) (.slice Ao36 t739.length co36)) (fun _ h_ => h_.1))) hb); have n4_ := Aside0.mk (blk_below (g := gb720) (o := .cells #[.int .i64 a0_0, .slice A0_1 l0_1.length c0_1] 26 (0, 0)) (by (with_reducible repeat (first | refine blk_drewN ?_ _ | refine blk_drew ?_ | refine blk_alloc ?_ _)); refine blk_far ?_ NB720_744.out _; (with_reducible repeat (first | refine blk_drewN ?_ _ | refine blk_drew ?_ | refine blk_alloc ?_ _)); refine blk_far ?_ NB720_744.out _; (with_reducible repeat (first | refine blk_drewN ?_ _ | refine blk_drew ?_ | refine blk_alloc ?_ _)); exact BK720.out) hb); have n5_ := Aside0.mk (blk_below (g := gb732) (o := .cells #[.int .i64 t726, .slice Ao22 t727.length co22] 28 (0, 0)) (by (with_reducible repeat (first | refine blk_drewN ?_ _ | refine blk_drew ?_ | refine blk_alloc ?_ _)); refine blk_far ?_ NB732_744.out _; (with_reducible repeat (first | refine blk_drewN ?_ _ | refine blk_drew ?_ | refine blk_alloc ?_ _)); refine blk_far ?_ NB732_744.out _; (with_reducible repeat (first | refine blk_drewN ?_ _ | refine blk_drew ?_ | refine blk_alloc ?_ _)); exact BK732.out) hb); have n6_ := Aside0.mk (blk_below (g := gb737) (o := .cells #[.int .i64 t733, .slice Ao29 t734.length co29] 28 (0, 0)) (by (with_reducible repeat (first | refine blk_drewN ?_ _ | refine blk_drew ?_ | refine blk_alloc ?_ _)); refine blk_far ?_ NB737_744.out _; (with_reducible repeat (first | refine blk_drewN ?_ _ | refine blk_drew ?_ | refine blk_alloc ?_ _)); refine blk_far ?_ NB737_744.out _; (with_reducible repeat (first | refine blk_drewN ?_ _ | refine blk_drew ?_ | refine blk_alloc ?_ _)); exact BK737.out) hb); have n7_ := Aside0.mk (blk_below (g := gb744) (o := .cells #[.int .i64 t738, .slice Ao36 t739.length co36] 28 (0, 0)) (by (with_reducible repeat (first | refine blk_drewN ?_ _ | refine blk_drew ?_ | refine blk_alloc ?_ _)); refine blk_put (cs := #[.int .i64 t738, .slice none 0 0]) ?_ 1 _ rfl; (with_reducible repeat (first | refine blk_drewN ?_ _ | refine blk_drew ?_ | refine blk_alloc ?_ _)); refine blk_put (cs := #[.int .i64 0, .slice none 0 0]) ?_ 0 _ rfl; (with_reducible repeat (first | refine blk_drewN ?_ _ | refine blk_drew ?_ | refine blk_alloc ?_ _)); exact BK744.out) hb); have n8_ := Aside0.mk (below_step (by repeat (first | (with_reducible first | exact HB.out | apply below_alloc | apply pw_below_drewN | apply below_drew1 | refine below_set ?_ GE720.out | refine below_set ?_ GE732.out | refine below_set ?_ GE737.out | refine below_set ?_ GE744.out) | exact HB.out)) hb); clear HO725; clear HO729; clear HO736; clear HO741; clear BK720; clear BK732; clear BK737; clear BK744; clear HB; have HO725 := n0_; have HO729 := n1_; have HO736 := n2_; have HO741 := n3_; have BK720 := n4_; have BK732 := n5_; have BK737 := n6_; have BK744 := n7_; have HB := n8_; clear n0_ n1_ n2_ n3_ n4_ n5_ n6_ n7_ n8_; (try clear hb); (try clear hb2); (try clear hk); (try clear hi)))
          go_meet
          case rel => exact ⟨_, (true), (by first | rfl | (simp; done) | (simp [*]; done)), H', ⟨by first | omega | exact Nat.le_refl _⟩, ⟨by (with_reducible repeat (first | apply Kd.R_alloc | apply Kd.R_drewN | apply Kd.R_drew)); exact Kd.R_mono HO729.out (fun _ hk => ⟨hk.1.2, hk.2⟩)⟩, ⟨by (with_reducible repeat (first | apply Kd.R_alloc | apply Kd.R_drewN | apply Kd.R_drew)); exact Kd.R_mono HO736.out (fun _ hk => ⟨hk.1.2, hk.2⟩)⟩, ⟨by (with_reducible repeat (first | apply Kd.R_alloc | apply Kd.R_drewN | apply Kd.R_drew)); exact Kd.R_mono HO741.out (fun _ hk => ⟨hk.1.2, hk.2⟩)⟩, ⟨by (with_reducible repeat (first | refine blk_drewN ?_ _ | refine blk_drew ?_ | refine blk_alloc ?_ _)); exact BK720.out⟩, ⟨by (with_reducible repeat (first | refine blk_drewN ?_ _ | refine blk_drew ?_ | refine blk_alloc ?_ _)); exact BK732.out⟩, ⟨by (with_reducible repeat (first | refine blk_drewN ?_ _ | refine blk_drew ?_ | refine blk_alloc ?_ _)); exact BK737.out⟩, ⟨by (with_reducible repeat (first | refine blk_drewN ?_ _ | refine blk_drew ?_ | refine blk_alloc ?_ _)); exact BK744.out⟩, ⟨by repeat (first | (with_reducible first | exact HB.out | apply below_alloc | apply pw_below_drewN | apply below_drew1 | refine below_set ?_ GE720.out | refine below_set ?_ GE732.out | refine below_set ?_ GE737.out | refine below_set ?_ GE744.out) | exact HB.out)⟩⟩
      · replace c38 := Bool.eq_false_iff.mpr c38
        subst c38
        have H1 : (laws_FnExactIdempotentOf.j0 k t730 t731 t742 t743 true a0_0 l0_1 t726 t727 t733 t734 t738 t739) = some r := by rw [if_neg (show ¬ (false = true) by decide)] at H; exact H
        clear H
        have H := H1
        clear H1
        have H' := Aside0.mk H
        clear H
        have hnb56 := NB744_720.out
        have hnc56 := NB720_744.out
        have hnb57 := NB744_732.out
        have hnc57 := NB732_744.out
        have hnb58 := NB744_737.out
        have hnc58 := NB737_744.out
        have hcz59_0 : w31.cell? ⟨gb744, 0, none⟩ = some (.int .i64 0) := (blk_cell BK744.out 0).trans rfl
        have hcz59_1 : w31.cell? ⟨gb744, 1, none⟩ = some (.slice none 0 0) := (blk_cell BK744.out 1).trans rfl
        have hfz59_0 := blk_frozen BK744.out 0
        have hfz59_1 := blk_frozen BK744.out 1
        have hnb60 := NB732_720.out
        have hnc60 := NB720_732.out
        have hnb61 := NB732_737.out
        have hnc61 := NB737_732.out
        have hcz62_0 : w31.cell? ⟨gb732, 0, none⟩ = some (.int .i64 t726) := (blk_cell BK732.out 0).trans rfl
        have hcz62_1 : w31.cell? ⟨gb732, 1, none⟩ = some (.slice Ao22 t727.length co22) := (blk_cell BK732.out 1).trans rfl
        have hfz62_0 := blk_frozen BK732.out 0
        have hfz62_1 := blk_frozen BK732.out 1
        go_wp2_with (first | ((with_reducible refine gate_callee (f := 21) rfl ?_); refine goesL_ (some 39) rfl rfl Try.func21 (by kernel_rfl) rfl #[.agg #[.int .i64 t738, .slice Ao36 t739.length co36], .agg #[.int .i64 t726, .slice Ao22 t727.length co22]] rfl (by (try simp only [List.map_toArray, List.map_cons, List.map_nil]); first | done | rfl | (simp only [List.length_drop, List.length_take]; rfl)) ?_; (with_reducible refine (laws_eqMatrix.calls k t738 _ _ t739 t726 _ _ t727 false _ ?side1 ?side2 ?side3 ?side4 A37.out).mono ?_); (case side1 => refine (Kd.R_reads' (e := 3) (base := w.heap.size) (ok := fun k_ => (((True ∧ some k_ ≠ (.slice Ao17 t723.length co17 : Value).ownBlock) ∧ some k_ ≠ (.slice Ao22 t727.length co22 : Value).ownBlock) ∧ some k_ ≠ (.slice Ao29 t734.length co29 : Value).ownBlock)) (n := t739.length) (c := co36) ?_).2.2; exact (by (with_reducible repeat (first | apply Kd.R_alloc | apply Kd.R_drewN | apply Kd.R_drew)); exact (Kd.R_mono (Kd.R_far (p := ⟨gb744, 1, none⟩) (Kd.R_far (p := ⟨gb744, 0, none⟩) (Kd.R_types HO741.out BK744.out (by decide)) (fun _ hk => hk.2) (.int .i64 t738)) (fun _ hk => hk.2) (.slice Ao36 t739.length co36)) (fun _ h_ => h_.1)))); (case side2 => exact (Kd.R_reads' HO741.out).2.1); (case side3 => refine (Kd.R_reads' (e := 3) (base := w.heap.size) (ok := fun k_ => (((True ∧ some k_ ≠ (.slice Ao17 t723.length co17 : Value).ownBlock) ∧ some k_ ≠ (.slice Ao29 t734.length co29 : Value).ownBlock) ∧ some k_ ≠ (.slice Ao36 t739.length co36 : Value).ownBlock)) (n := t727.length) (c := co22) ?_).2.2; exact (by (with_reducible repeat (first | apply Kd.R_alloc | apply Kd.R_drewN | apply Kd.R_drew)); exact (Kd.R_mono (Kd.R_far (p := ⟨gb744, 1, none⟩) (Kd.R_far (p := ⟨gb744, 0, none⟩) (Kd.R_types HO729.out BK744.out (by decide)) (fun _ hk => hk.2) (.int .i64 t738)) (fun _ hk => hk.2) (.slice Ao36 t739.length co36)) (fun _ h_ => h_.1)))); (case side4 => exact (Kd.R_reads' HO729.out).2.1); rintro e w63 ⟨rfl, hb⟩; refine ⟨_, rfl, ?_⟩; have n0_ := Aside0.mk (Kd.R_below (by (with_reducible repeat (first | apply Kd.R_alloc | apply Kd.R_drewN | apply Kd.R_drew)); exact (Kd.R_mono (Kd.R_far (p := ⟨gb744, 1, none⟩) (Kd.R_far (p := ⟨gb744, 0, none⟩) (Kd.R_types HO725.out BK744.out (by decide)) (fun _ hk => hk.2) (.int .i64 t738)) (fun _ hk => hk.2) (.slice Ao36 t739.length co36)) (fun _ h_ => h_.1))) hb); have n1_ := Aside0.mk (Kd.R_below (by (with_reducible repeat (first | apply Kd.R_alloc | apply Kd.R_drewN | apply Kd.R_drew)); exact (Kd.R_mono (Kd.R_far (p := ⟨gb744, 1, none⟩) (Kd.R_far (p := ⟨gb744, 0, none⟩) (Kd.R_types HO729.out BK744.out (by decide)) (fun _ hk => hk.2) (.int .i64 t738)) (fun _ hk => hk.2) (.slice Ao36 t739.length co36)) (fun _ h_ => h_.1))) hb); have n2_ := Aside0.mk (Kd.R_below (by (with_reducible repeat (first | apply Kd.R_alloc | apply Kd.R_drewN | apply Kd.R_drew)); exact (Kd.R_mono (Kd.R_far (p := ⟨gb744, 1, none⟩) (Kd.R_far (p := ⟨gb744, 0, none⟩) (Kd.R_types HO736.out BK744.out (by decide)) (fun _ hk => hk.2) (.int .i64 t738)) (fun _ hk => hk.2) (.slice Ao36 t739.length co36)) (fun _ h_ => h_.1))) hb); have n3_ := Aside0.mk (Kd.R_below (by (with_reducible repeat (first | apply Kd.R_alloc | apply Kd.R_drewN | apply Kd.R_drew)); exact (Kd.R_mono (Kd.R_far (p := ⟨gb744, 1, none⟩) (Kd.R_far (p := ⟨gb744, 0, none⟩) (Kd.R_types HO741.out BK744.out (by decide)) (fun _ hk => hk.2) (.int .i64 t738)) (fun _ hk => hk.2) (.slice Ao36 t739.length co36)) (fun _ h_ => h_.1))) hb); have n4_ := Aside0.mk (blk_below (g := gb720) (o := .cells #[.int .i64 a0_0, .slice A0_1 l0_1.length c0_1] 26 (0, 0)) (by (with_reducible repeat (first | refine blk_drewN ?_ _ | refine blk_drew ?_ | refine blk_alloc ?_ _)); refine blk_far ?_ NB720_744.out _; (with_reducible repeat (first | refine blk_drewN ?_ _ | refine blk_drew ?_ | refine blk_alloc ?_ _)); refine blk_far ?_ NB720_744.out _; (with_reducible repeat (first | refine blk_drewN ?_ _ | refine blk_drew ?_ | refine blk_alloc ?_ _)); exact BK720.out) hb); have n5_ := Aside0.mk (blk_below (g := gb732) (o := .cells #[.int .i64 t726, .slice Ao22 t727.length co22] 28 (0, 0)) (by (with_reducible repeat (first | refine blk_drewN ?_ _ | refine blk_drew ?_ | refine blk_alloc ?_ _)); refine blk_far ?_ NB732_744.out _; (with_reducible repeat (first | refine blk_drewN ?_ _ | refine blk_drew ?_ | refine blk_alloc ?_ _)); refine blk_far ?_ NB732_744.out _; (with_reducible repeat (first | refine blk_drewN ?_ _ | refine blk_drew ?_ | refine blk_alloc ?_ _)); exact BK732.out) hb); have n6_ := Aside0.mk (blk_below (g := gb737) (o := .cells #[.int .i64 t733, .slice Ao29 t734.length co29] 28 (0, 0)) (by (with_reducible repeat (first | refine blk_drewN ?_ _ | refine blk_drew ?_ | refine blk_alloc ?_ _)); refine blk_far ?_ NB737_744.out _; (with_reducible repeat (first | refine blk_drewN ?_ _ | refine blk_drew ?_ | refine blk_alloc ?_ _)); refine blk_far ?_ NB737_744.out _; (with_reducible repeat (first | refine blk_drewN ?_ _ | refine blk_drew ?_ | refine blk_alloc ?_ _)); exact BK737.out) hb); have n7_ := Aside0.mk (blk_below (g := gb744) (o := .cells #[.int .i64 t738, .slice Ao36 t739.length co36] 28 (0, 0)) (by (with_reducible repeat (first | refine blk_drewN ?_ _ | refine blk_drew ?_ | refine blk_alloc ?_ _)); refine blk_put (cs := #[.int .i64 t738, .slice none 0 0]) ?_ 1 _ rfl; (with_reducible repeat (first | refine blk_drewN ?_ _ | refine blk_drew ?_ | refine blk_alloc ?_ _)); refine blk_put (cs := #[.int .i64 0, .slice none 0 0]) ?_ 0 _ rfl; (with_reducible repeat (first | refine blk_drewN ?_ _ | refine blk_drew ?_ | refine blk_alloc ?_ _)); exact BK744.out) hb); have n8_ := Aside0.mk (below_step (by repeat (first | (with_reducible first | exact HB.out | apply below_alloc | apply pw_below_drewN | apply below_drew1 | refine below_set ?_ GE720.out | refine below_set ?_ GE732.out | refine below_set ?_ GE737.out | refine below_set ?_ GE744.out) | exact HB.out)) hb); clear HO725; clear HO729; clear HO736; clear HO741; clear BK720; clear BK732; clear BK737; clear BK744; clear HB; have HO725 := n0_; have HO729 := n1_; have HO736 := n2_; have HO741 := n3_; have BK720 := n4_; have BK732 := n5_; have BK737 := n6_; have BK744 := n7_; have HB := n8_; clear n0_ n1_ n2_ n3_ n4_ n5_ n6_ n7_ n8_; (try clear hb); (try clear hb2); (try clear hk); (try clear hi)))
        go_meet
        case rel => exact ⟨_, (true), (by first | rfl | (simp; done) | (simp [*]; done)), H', ⟨by first | omega | exact Nat.le_refl _⟩, ⟨by (with_reducible repeat (first | apply Kd.R_alloc | apply Kd.R_drewN | apply Kd.R_drew)); exact Kd.R_mono HO729.out (fun _ hk => ⟨hk.1.2, hk.2⟩)⟩, ⟨by (with_reducible repeat (first | apply Kd.R_alloc | apply Kd.R_drewN | apply Kd.R_drew)); exact Kd.R_mono HO736.out (fun _ hk => ⟨hk.1.2, hk.2⟩)⟩, ⟨by (with_reducible repeat (first | apply Kd.R_alloc | apply Kd.R_drewN | apply Kd.R_drew)); exact Kd.R_mono HO741.out (fun _ hk => ⟨hk.1.2, hk.2⟩)⟩, ⟨by (with_reducible repeat (first | refine blk_drewN ?_ _ | refine blk_drew ?_ | refine blk_alloc ?_ _)); exact BK720.out⟩, ⟨by (with_reducible repeat (first | refine blk_drewN ?_ _ | refine blk_drew ?_ | refine blk_alloc ?_ _)); exact BK732.out⟩, ⟨by (with_reducible repeat (first | refine blk_drewN ?_ _ | refine blk_drew ?_ | refine blk_alloc ?_ _)); exact BK737.out⟩, ⟨by (with_reducible repeat (first | refine blk_drewN ?_ _ | refine blk_drew ?_ | refine blk_alloc ?_ _)); exact BK744.out⟩, ⟨by repeat (first | (with_reducible first | exact HB.out | apply below_alloc | apply pw_below_drewN | apply below_drew1 | refine below_set ?_ GE720.out | refine below_set ?_ GE732.out | refine below_set ?_ GE737.out | refine below_set ?_ GE744.out) | exact HB.out)⟩⟩
    case rest =>
      clear HC11
      try clear c1
      try clear c2
      try clear p2
      try clear c3
      try clear c3b0
      try clear c4
      try clear c5
      try clear c6
      try clear c10
      try clear c17
      try clear c19
      try clear c20
      try clear c21
      try clear c26
      try clear c27
      try clear c29
      try clear c30
      try clear c32
      try clear c33
      try clear c34
      try clear c38
      try clear c39
      try clear c39b0
      try clear c39b1
      try clear c40
      try clear c41
      try clear c42
      try clear c44
      try clear c45
      try clear c48
      try clear c49
      try clear c50
      try clear c52
      try clear c53
      try clear c56
      try clear c57
      try clear c58
      try clear c60
      try clear c61
      try clear hcz13_0
      try clear hcz13_1
      try clear hcz15_0
      try clear hcz15_1
      try clear hcz21_0
      try clear hcz21_1
      try clear hcz23_0
      try clear hcz23_1
      try clear hcz28_0
      try clear hcz28_1
      try clear hcz35_0
      try clear hcz35_1
      try clear hcz43_0
      try clear hcz43_1
      try clear hcz46_0
      try clear hcz46_1
      try clear hcz51_0
      try clear hcz51_1
      try clear hcz54_0
      try clear hcz54_1
      try clear hcz59_0
      try clear hcz59_1
      try clear hcz5_0
      try clear hcz5_1
      try clear hcz62_0
      try clear hcz62_1
      try clear hfz13_0
      try clear hfz13_1
      try clear hfz15_0
      try clear hfz15_1
      try clear hfz21_0
      try clear hfz21_1
      try clear hfz23_0
      try clear hfz23_1
      try clear hfz28_0
      try clear hfz28_1
      try clear hfz35_0
      try clear hfz35_1
      try clear hfz43_0
      try clear hfz43_1
      try clear hfz46_0
      try clear hfz46_1
      try clear hfz51_0
      try clear hfz51_1
      try clear hfz54_0
      try clear hfz54_1
      try clear hfz59_0
      try clear hfz59_1
      try clear hfz5_0
      try clear hfz5_1
      try clear hfz62_0
      try clear hfz62_1
      obtain ⟨kq, x50_10, rfl, HA, HJ10, HO_733001, HO_738001, HO_745001, BK720, BK732, BK737, BK744, HB⟩ := hcut
      cases kq with
      | zero => exact absurd HA.out (by simp [laws_FnExactIdempotentOf.j0])
      | succ kj10 =>
        have H := HA.out
        clear HA
        simp only [laws_FnExactIdempotentOf.j0] at H
        by_cases c64 : x50_10 = true
        · subst c64
          have H1 : (some false) = some r := by rw [if_pos rfl] at H; exact H
          clear H
          have H := H1
          clear H1
          obtain rfl := Option.some.inj H
          go_wp2
          go_ret
          exact ⟨by first | rfl | (simp [errW_none, errW_some] <;> rfl) | (simp [*, errW_none, errW_some] <;> rfl), by repeat (first | (with_reducible first | exact HB.out | apply below_alloc | apply pw_below_drewN | apply below_drew1 | refine below_set ?_ GE720.out | refine below_set ?_ GE732.out | refine below_set ?_ GE737.out | refine below_set ?_ GE744.out) | exact HB.out)⟩
        · replace c64 := Bool.eq_false_iff.mpr c64
          subst c64
          have H1 : ((laws_toMatrix.f kj10 a0_0 l0_1).bind fun bt746 => ((laws_eqMatrix.f kj10 t733 t734 bt746.1 bt746.2).bind fun t750 => (if t750 = true then ((laws_markMatrix.f kj10 t733 t734 1).bind fun bt751 => (if bt751.1 < 0 then (laws_FnExactIdempotentOf.j1 kj10 t730 t731 true a0_0 l0_1 t726 t727 t738 t739) else ((laws_eqMatrix.f kj10 t738 t739 t726 t727).bind fun t753 => (if t753 = true then (if t742 = t730 then (laws_FnExactIdempotentOf.j1 kj10 t730 t731 (t743 != t731) a0_0 l0_1 t726 t727 t738 t739) else (laws_FnExactIdempotentOf.j1 kj10 t730 t731 true a0_0 l0_1 t726 t727 t738 t739)) else (laws_FnExactIdempotentOf.j1 kj10 t730 t731 true a0_0 l0_1 t726 t727 t738 t739))))) else (some false)))) = some r := by rw [if_neg (show ¬ (false = true) by decide)] at H; exact H
          clear H
          have H := H1
          clear H1
          replace H := Option.bind_eq_some_iff.mp H
          obtain ⟨⟨t746, t747⟩, A650, H⟩ := H
          replace H : ((laws_eqMatrix.f kj10 t733 t734 t746 t747).bind fun t750 => (if t750 = true then ((laws_markMatrix.f kj10 t733 t734 1).bind fun bt751 => (if bt751.1 < 0 then (laws_FnExactIdempotentOf.j1 kj10 t730 t731 true a0_0 l0_1 t726 t727 t738 t739) else ((laws_eqMatrix.f kj10 t738 t739 t726 t727).bind fun t753 => (if t753 = true then (if t742 = t730 then (laws_FnExactIdempotentOf.j1 kj10 t730 t731 (t743 != t731) a0_0 l0_1 t726 t727 t738 t739) else (laws_FnExactIdempotentOf.j1 kj10 t730 t731 true a0_0 l0_1 t726 t727 t738 t739)) else (laws_FnExactIdempotentOf.j1 kj10 t730 t731 true a0_0 l0_1 t726 t727 t738 t739))))) else (some false))) = some r := H
          have A65 := Aside0.mk A650
          clear A650
          replace H := Option.bind_eq_some_iff.mp H
          obtain ⟨t750, A660, H⟩ := H
          replace H : (if t750 = true then ((laws_markMatrix.f kj10 t733 t734 1).bind fun bt751 => (if bt751.1 < 0 then (laws_FnExactIdempotentOf.j1 kj10 t730 t731 true a0_0 l0_1 t726 t727 t738 t739) else ((laws_eqMatrix.f kj10 t738 t739 t726 t727).bind fun t753 => (if t753 = true then (if t742 = t730 then (laws_FnExactIdempotentOf.j1 kj10 t730 t731 (t743 != t731) a0_0 l0_1 t726 t727 t738 t739) else (laws_FnExactIdempotentOf.j1 kj10 t730 t731 true a0_0 l0_1 t726 t727 t738 t739)) else (laws_FnExactIdempotentOf.j1 kj10 t730 t731 true a0_0 l0_1 t726 t727 t738 t739))))) else (some false)) = some r := H
          have A66 := Aside0.mk A660
          clear A660
          by_cases c67 : t750 = true
          · subst c67
            have H1 : ((laws_markMatrix.f kj10 t733 t734 1).bind fun bt751 => (if bt751.1 < 0 then (laws_FnExactIdempotentOf.j1 kj10 t730 t731 true a0_0 l0_1 t726 t727 t738 t739) else ((laws_eqMatrix.f kj10 t738 t739 t726 t727).bind fun t753 => (if t753 = true then (if t742 = t730 then (laws_FnExactIdempotentOf.j1 kj10 t730 t731 (t743 != t731) a0_0 l0_1 t726 t727 t738 t739) else (laws_FnExactIdempotentOf.j1 kj10 t730 t731 true a0_0 l0_1 t726 t727 t738 t739)) else (laws_FnExactIdempotentOf.j1 kj10 t730 t731 true a0_0 l0_1 t726 t727 t738 t739))))) = some r := by rw [if_pos rfl] at H; exact H
            clear H
            have H := H1
            clear H1
            replace H := Option.bind_eq_some_iff.mp H
            obtain ⟨⟨t751, t752⟩, A680, H⟩ := H
            replace H : (if t751 < 0 then (laws_FnExactIdempotentOf.j1 kj10 t730 t731 true a0_0 l0_1 t726 t727 t738 t739) else ((laws_eqMatrix.f kj10 t738 t739 t726 t727).bind fun t753 => (if t753 = true then (if t742 = t730 then (laws_FnExactIdempotentOf.j1 kj10 t730 t731 (t743 != t731) a0_0 l0_1 t726 t727 t738 t739) else (laws_FnExactIdempotentOf.j1 kj10 t730 t731 true a0_0 l0_1 t726 t727 t738 t739)) else (laws_FnExactIdempotentOf.j1 kj10 t730 t731 true a0_0 l0_1 t726 t727 t738 t739)))) = some r := H
            have A68 := Aside0.mk A680
            clear A680
            have HC69 := Aside0.mk H
            clear H
            try go_wp2
            have n0_ := Aside0.mk (Kd.R_drew HO_733001.out)
            have n1_ := Aside0.mk (Kd.R_drew HO_738001.out)
            have n2_ := Aside0.mk (Kd.R_drew HO_745001.out)
            have n3_ := Aside0.mk (blk_drew BK720.out)
            have n4_ := Aside0.mk (blk_drew BK732.out)
            have n5_ := Aside0.mk (blk_drew BK737.out)
            have n6_ := Aside0.mk (blk_drew BK744.out)
            have n7_ := Aside0.mk (below_drew1 HB.out)
            clear HO_733001
            clear HO_738001
            clear HO_745001
            clear BK720
            clear BK732
            clear BK737
            clear BK744
            clear HB
            have HO_733001 := n0_
            have HO_738001 := n1_
            have HO_745001 := n2_
            have BK720 := n3_
            have BK732 := n4_
            have BK737 := n5_
            have BK744 := n6_
            have HB := n7_
            clear n0_ n1_ n2_ n3_ n4_ n5_ n6_ n7_
            refine start_ (n := 5) (S := fun w' => w'.cell? ⟨gb737, 0, none⟩ = some (.int .i64 t733) ∧ w'.cell? ⟨gb737, 1, none⟩ = some (.slice Ao29 t734.length co29) ∧ w'.cell? ⟨gb720, 0, none⟩ = some (.int .i64 a0_0) ∧ w'.cell? ⟨gb720, 1, none⟩ = some (.slice A0_1 l0_1.length c0_1)) (ds := []) #[false, false, false, false, false] (by kernel_rfl) rfl rfl ⟨(blk_cell BK737.out 0).trans rfl, (blk_cell BK737.out 1).trans rfl, (blk_cell BK720.out 0).trans rfl, (blk_cell BK720.out 1).trans rfl⟩ (fun hHeld => ?_)
            generalize wc.drew = w70 at HO_733001 HO_738001 HO_745001 BK720 BK732 BK737 BK744 HB hHeld ⊢
            refine take_ (i := 0) (N := some 51) (v := ?_) (a' := ?_) #[true, false, false, false, false] rfl rfl (by kernel_rfl) (fun _ _ _ h => h) (Or.inl ⟨by rfl, ?_⟩) hHeld ?_ ?_
            rotate_left
            · rintro w' ⟨s0, s1, s2, s3⟩
              go_simp
              with_reducible rfl
            rotate_left
            · simp only [Act.put, List.setIfInBounds_toArray, List.set_cons_zero, List.set_cons_succ, i64_w, i32_w]
              rfl
            refine take_ (i := 1) (N := some 52) (v := ?_) (a' := ?_) #[true, true, false, false, false] rfl rfl (by kernel_rfl) (fun _ _ _ h => h) (Or.inl ⟨by rfl, ?_⟩) hHeld ?_ ?_
            rotate_left
            · rintro w' ⟨s0, s1, s2, s3⟩
              go_simp
              with_reducible rfl
            rotate_left
            · simp only [Act.put, List.setIfInBounds_toArray, List.set_cons_zero, List.set_cons_succ, i64_w, i32_w]
              rfl
            refine one_ (i := 2) (N := some 53) #[true, true, true, false, false] rfl rfl (by kernel_rfl) (by decide) (fun K hK => ?_)
            refine goes_ Try.func19 (by kernel_rfl) rfl #[.agg #[.int .i64 a0_0, .slice A0_1 l0_1.length c0_1]] (by rfl) rfl rfl (by (try simp only [List.map_toArray, List.map_cons, List.map_nil]); first | done | rfl | (simp only [List.length_drop, List.length_take]; rfl)) ?_
            with_reducible refine (laws_toMatrix.calls kj10 a0_0 _ _ l0_1 t746 t747 _ ?side1 ?side2 A65.out).mono ?_
            (case side1 => repeat (first | exact (Kd.C_below HR0_1.out HB.out) | (with_reducible refine Kd.C_alloc ?_ _) | (with_reducible refine Kd.C_drewN ?_ _) | (with_reducible refine Kd.C_drew ?_)))
            (case side2 => exact HC0_1.out)
            rintro e w71 ⟨v748, rfl, ho0, hb⟩
            refine ⟨_, rfl, ?_⟩
            have n0_ := Aside0.mk (Kd.R_elder' (by (with_reducible repeat (first | apply Kd.R_alloc | apply Kd.R_drewN | apply Kd.R_drew)); exact HO_733001.out) (Kd.R_base ho0) hb)
            have n1_ := Aside0.mk (Kd.R_elder' (by (with_reducible repeat (first | apply Kd.R_alloc | apply Kd.R_drewN | apply Kd.R_drew)); exact HO_738001.out) (Kd.R_base ho0) hb)
            have n2_ := Aside0.mk (Kd.R_elder' (by (with_reducible repeat (first | apply Kd.R_alloc | apply Kd.R_drewN | apply Kd.R_drew)); exact HO_745001.out) (Kd.R_base ho0) hb)
            have n3_ := Aside0.mk (Kd.R_lower (Kd.R_new' (Kd.R_new' (Kd.R_new' ho0 (Kd.R_lt (by (with_reducible repeat (first | apply Kd.R_alloc | apply Kd.R_drewN | apply Kd.R_drew)); exact HO_733001.out))) (Kd.R_lt (by (with_reducible repeat (first | apply Kd.R_alloc | apply Kd.R_drewN | apply Kd.R_drew)); exact HO_738001.out))) (Kd.R_lt (by (with_reducible repeat (first | apply Kd.R_alloc | apply Kd.R_drewN | apply Kd.R_drew)); exact HO_745001.out))) (below_size (by repeat (first | (with_reducible first | exact HB.out | apply below_alloc | apply pw_below_drewN | apply below_drew1 | refine below_set ?_ GE720.out | refine below_set ?_ GE732.out | refine below_set ?_ GE737.out | refine below_set ?_ GE744.out) | exact HB.out))))
            have n4_ := Aside0.mk (blk_below (g := gb720) (o := .cells #[.int .i64 a0_0, .slice A0_1 l0_1.length c0_1] 26 (0, 0)) (by (with_reducible repeat (first | refine blk_drewN ?_ _ | refine blk_drew ?_ | refine blk_alloc ?_ _)); exact BK720.out) hb)
            have n5_ := Aside0.mk (blk_below (g := gb732) (o := .cells #[.int .i64 t726, .slice Ao22 t727.length co22] 28 (0, 0)) (by (with_reducible repeat (first | refine blk_drewN ?_ _ | refine blk_drew ?_ | refine blk_alloc ?_ _)); exact BK732.out) hb)
            have n6_ := Aside0.mk (blk_below (g := gb737) (o := .cells #[.int .i64 t733, .slice Ao29 t734.length co29] 28 (0, 0)) (by (with_reducible repeat (first | refine blk_drewN ?_ _ | refine blk_drew ?_ | refine blk_alloc ?_ _)); exact BK737.out) hb)
            have n7_ := Aside0.mk (blk_below (g := gb744) (o := .cells #[.int .i64 t738, .slice Ao36 t739.length co36] 28 (0, 0)) (by (with_reducible repeat (first | refine blk_drewN ?_ _ | refine blk_drew ?_ | refine blk_alloc ?_ _)); exact BK744.out) hb)
            have n8_ := Aside0.mk (below_step (by repeat (first | (with_reducible first | exact HB.out | apply below_alloc | apply pw_below_drewN | apply below_drew1 | refine below_set ?_ GE720.out | refine below_set ?_ GE732.out | refine below_set ?_ GE737.out | refine below_set ?_ GE744.out) | exact HB.out)) hb)
            clear HO_733001
            clear HO_738001
            clear HO_745001
            clear BK720
            clear BK732
            clear BK737
            clear BK744
            clear HB
            have HO_733001 := n0_
            have HO_738001 := n1_
            have HO_745001 := n2_
            have HO749 := n3_
            have BK720 := n4_
            have BK732 := n5_
            have BK737 := n6_
            have BK744 := n7_
            have HB := n8_
            clear n0_ n1_ n2_ n3_ n4_ n5_ n6_ n7_ n8_
            (try clear hb)
            (try clear hb2)
            (try clear hk)
            (try clear hi)
            (try clear ho0)
            obtain ⟨Ao72, co72, eo72⟩ := Kd.R_slice HO749.out
            (first | subst eo72 | (injection eo72 with f1_ f2_ f3_; have f4_ := f1_.symm; have f5_ := f3_.symm; clear f1_ f2_ f3_; subst f4_; subst f5_))
            refine hK.out _ _ ⟨(blk_cell BK737.out 0).trans rfl, (blk_cell BK737.out 1).trans rfl, (blk_cell BK720.out 0).trans rfl, (blk_cell BK720.out 1).trans rfl⟩ (fun hHeld => ?_)
            clear hK K
            refine norm_ (a' := ?_) ?_ ?_
            rotate_left
            · show Act.put _ (some 53) _ = _
              simp only [Act.put, List.setIfInBounds_toArray, List.set_cons_zero, List.set_cons_succ, i64_w, i32_w]
              rfl
            refine one_ (i := 3) (N := some 54) #[true, true, true, true, false] rfl rfl (by kernel_rfl) (by decide) (fun K hK => ?_)
            refine goes_ Try.func21 (by kernel_rfl) rfl #[.agg #[.int .i64 t733, .slice Ao29 t734.length co29], .agg #[.int .i64 t746, .slice Ao72 t747.length co72]] (by rfl) rfl rfl (by (try simp only [List.map_toArray, List.map_cons, List.map_nil]); first | done | rfl | (simp only [List.length_drop, List.length_take]; rfl)) ?_
            with_reducible refine (laws_eqMatrix.calls kj10 t733 _ _ t734 t746 _ _ t747 true _ ?side1 ?side2 ?side3 ?side4 A66.out).mono ?_
            (case side1 => repeat (first | exact (Kd.R_reads' HO_738001.out).2.2 | (with_reducible refine Kd.C_alloc ?_ _) | (with_reducible refine Kd.C_drewN ?_ _) | (with_reducible refine Kd.C_drew ?_)))
            (case side2 => exact (Kd.R_reads' HO_738001.out).2.1)
            (case side3 => repeat (first | exact (Kd.R_reads' HO749.out).2.2 | (with_reducible refine Kd.C_alloc ?_ _) | (with_reducible refine Kd.C_drewN ?_ _) | (with_reducible refine Kd.C_drew ?_)))
            (case side4 => exact (Kd.R_reads' HO749.out).2.1)
            rintro e w73 ⟨rfl, hb⟩
            refine ⟨_, rfl, ?_⟩
            have n0_ := Aside0.mk (Kd.R_below (by (with_reducible repeat (first | apply Kd.R_alloc | apply Kd.R_drewN | apply Kd.R_drew)); exact HO_733001.out) hb)
            have n1_ := Aside0.mk (Kd.R_below (by (with_reducible repeat (first | apply Kd.R_alloc | apply Kd.R_drewN | apply Kd.R_drew)); exact HO_738001.out) hb)
            have n2_ := Aside0.mk (Kd.R_below (by (with_reducible repeat (first | apply Kd.R_alloc | apply Kd.R_drewN | apply Kd.R_drew)); exact HO_745001.out) hb)
            have n3_ := Aside0.mk (Kd.R_below (by (with_reducible repeat (first | apply Kd.R_alloc | apply Kd.R_drewN | apply Kd.R_drew)); exact HO749.out) hb)
            have n4_ := Aside0.mk (blk_below (g := gb720) (o := .cells #[.int .i64 a0_0, .slice A0_1 l0_1.length c0_1] 26 (0, 0)) (by (with_reducible repeat (first | refine blk_drewN ?_ _ | refine blk_drew ?_ | refine blk_alloc ?_ _)); exact BK720.out) hb)
            have n5_ := Aside0.mk (blk_below (g := gb732) (o := .cells #[.int .i64 t726, .slice Ao22 t727.length co22] 28 (0, 0)) (by (with_reducible repeat (first | refine blk_drewN ?_ _ | refine blk_drew ?_ | refine blk_alloc ?_ _)); exact BK732.out) hb)
            have n6_ := Aside0.mk (blk_below (g := gb737) (o := .cells #[.int .i64 t733, .slice Ao29 t734.length co29] 28 (0, 0)) (by (with_reducible repeat (first | refine blk_drewN ?_ _ | refine blk_drew ?_ | refine blk_alloc ?_ _)); exact BK737.out) hb)
            have n7_ := Aside0.mk (blk_below (g := gb744) (o := .cells #[.int .i64 t738, .slice Ao36 t739.length co36] 28 (0, 0)) (by (with_reducible repeat (first | refine blk_drewN ?_ _ | refine blk_drew ?_ | refine blk_alloc ?_ _)); exact BK744.out) hb)
            have n8_ := Aside0.mk (below_step (by repeat (first | (with_reducible first | exact HB.out | apply below_alloc | apply pw_below_drewN | apply below_drew1 | refine below_set ?_ GE720.out | refine below_set ?_ GE732.out | refine below_set ?_ GE737.out | refine below_set ?_ GE744.out) | exact HB.out)) hb)
            clear HO_733001
            clear HO_738001
            clear HO_745001
            clear HO749
            clear BK720
            clear BK732
            clear BK737
            clear BK744
            clear HB
            have HO_733001 := n0_
            have HO_738001 := n1_
            have HO_745001 := n2_
            have HO749 := n3_
            have BK720 := n4_
            have BK732 := n5_
            have BK737 := n6_
            have BK744 := n7_
            have HB := n8_
            clear n0_ n1_ n2_ n3_ n4_ n5_ n6_ n7_ n8_
            (try clear hb)
            (try clear hb2)
            (try clear hk)
            (try clear hi)
            refine hK.out _ _ ⟨(blk_cell BK737.out 0).trans rfl, (blk_cell BK737.out 1).trans rfl, (blk_cell BK720.out 0).trans rfl, (blk_cell BK720.out 1).trans rfl⟩ (fun hHeld => ?_)
            clear hK K
            refine norm_ (a' := ?_) ?_ ?_
            rotate_left
            · show Act.put _ (some 54) _ = _
              simp only [Act.put, List.setIfInBounds_toArray, List.set_cons_zero, List.set_cons_succ, i64_w, i32_w]
              rfl
            refine pure_ (i := 4) (N := some 55) (v := ?_) (a' := ?_) #[true, true, true, true, true] rfl rfl (by kernel_rfl) (fun _ _ _ h => h) (Or.inl ⟨by rfl, ?_⟩) ?_ ?_
            rotate_left
            · intro w'
              go_simp
              with_reducible rfl
            rotate_left
            · simp only [Act.put, List.setIfInBounds_toArray, List.set_cons_zero, List.set_cons_succ, i64_w, i32_w]
              rfl
            refine done_ (by kernel_rfl) ?_
            have hnb74 := NB737_720.out
            have hnc74 := NB720_737.out
            have hnb75 := NB737_732.out
            have hnc75 := NB732_737.out
            have hnb76 := NB737_744.out
            have hnc76 := NB744_737.out
            have hcz77_0 : w73.cell? ⟨gb737, 0, none⟩ = some (.int .i64 t733) := (blk_cell BK737.out 0).trans rfl
            have hcz77_1 : w73.cell? ⟨gb737, 1, none⟩ = some (.slice Ao29 t734.length co29) := (blk_cell BK737.out 1).trans rfl
            have hfz77_0 := blk_frozen BK737.out 0
            have hfz77_1 := blk_frozen BK737.out 1
            go_upto_region 14 with (first | ((with_reducible refine gate_callee (f := 22) rfl ?_); refine goesL_ (some 58) rfl rfl Try.func22 (by kernel_rfl) rfl #[.agg #[.int .i64 t733, .slice Ao29 t734.length co29], .int .i64 1] rfl (by (try simp only [List.map_toArray, List.map_cons, List.map_nil]); first | done | rfl | (simp only [List.length_drop, List.length_take]; rfl)) ?_; (with_reducible refine (laws_markMatrix.calls kj10 t733 (fun k_ => some k_ = (.slice Ao29 t734.length co29 : Value).ownBlock) (.slice Ao29 t734.length co29) t734 1 t751 t752 w _ ?side1 ?side2 A68.out).mono ?_); (case side1 => repeat (first | (with_reducible first | exact HB.out | apply below_alloc | apply pw_below_drewN | apply below_drew1 | refine below_set ?_ GE720.out | refine below_set ?_ GE732.out | refine below_set ?_ GE737.out | refine below_set ?_ GE744.out) | exact HB.out)); (case side2 => exact Kd.R_tight rfl HO_738001.out); rintro e w78 ⟨rfl, hy0, hb, hkp⟩; refine ⟨_, rfl, ?_⟩; have n0_ := Aside0.mk (Kd.R_mono (ok' := fun k_ => some k_ ≠ (.slice Ao29 t734.length co29 : Value).ownBlock ∧ some k_ ≠ (.slice Ao36 t739.length co36 : Value).ownBlock ∧ some k_ ≠ (.slice Ao72 t747.length co72 : Value).ownBlock) (Kd.R_keptB (HO_733001.out) hkp (fun k_ hk_ hs_ => (hk_.1.1) hs_)) (fun k_ hk_ => ⟨hk_.1.1.1, hk_.1.1.2, hk_.1.2⟩)); have n1_ := Aside0.mk (Kd.R_reok rfl hy0 (fun k_ e_ => HO_738001.out.1 k_ e_)); have n2_ := Aside0.mk (Kd.R_mono (ok' := fun k_ => some k_ ≠ (.slice Ao22 t727.length co22 : Value).ownBlock ∧ some k_ ≠ (.slice Ao29 t734.length co29 : Value).ownBlock ∧ some k_ ≠ (.slice Ao72 t747.length co72 : Value).ownBlock) (Kd.R_keptB (HO_745001.out) hkp (fun k_ hk_ hs_ => (hk_.1.2) hs_)) (fun k_ hk_ => ⟨hk_.1.1.1, hk_.1.1.2, hk_.1.2⟩)); have n3_ := Aside0.mk (blk_kept (by (with_reducible repeat (first | refine blk_drewN ?_ _ | refine blk_drew ?_ | refine blk_alloc ?_ _)); exact BK720.out) hkp (fun hs_ => (fun e_ => (Kd.R_ne HO_738001.out BK720.out (by decide)) e_) hs_)); have n4_ := Aside0.mk (blk_kept (by (with_reducible repeat (first | refine blk_drewN ?_ _ | refine blk_drew ?_ | refine blk_alloc ?_ _)); exact BK732.out) hkp (fun hs_ => (fun e_ => (Kd.R_ne HO_738001.out BK732.out (by decide)) e_) hs_)); have n5_ := Aside0.mk (blk_kept (by (with_reducible repeat (first | refine blk_drewN ?_ _ | refine blk_drew ?_ | refine blk_alloc ?_ _)); exact BK737.out) hkp (fun hs_ => (fun e_ => (Kd.R_ne HO_738001.out BK737.out (by decide)) e_) hs_)); have n6_ := Aside0.mk (blk_kept (by (with_reducible repeat (first | refine blk_drewN ?_ _ | refine blk_drew ?_ | refine blk_alloc ?_ _)); exact BK744.out) hkp (fun hs_ => (fun e_ => (Kd.R_ne HO_738001.out BK744.out (by decide)) e_) hs_)); have n7_ := Aside0.mk (Kd.R_mono (ok' := fun k_ => some k_ ≠ (.slice Ao22 t727.length co22 : Value).ownBlock ∧ some k_ ≠ (.slice Ao29 t734.length co29 : Value).ownBlock ∧ some k_ ≠ (.slice Ao36 t739.length co36 : Value).ownBlock) (Kd.R_keptB (HO749.out) hkp (fun k_ hk_ hs_ => (hk_.1.2) hs_)) (fun k_ hk_ => ⟨hk_.1.1.1.2, hk_.1.1.2, hk_.1.2⟩)); have n8_ := Aside0.mk (hb); clear HO_733001; clear HO_738001; clear HO_745001; clear BK720; clear BK732; clear BK737; clear BK744; clear HO749; clear HB; have HO_733001 := n0_; have HO_738001 := n1_; have HO_745001 := n2_; have BK720 := n3_; have BK732 := n4_; have BK737 := n5_; have BK744 := n6_; have HO749 := n7_; have HB := n8_; clear n0_ n1_ n2_ n3_ n4_ n5_ n6_ n7_ n8_; (try clear hb); (try clear hkp); (try clear hy0)))
            (try simp only [Act.put, List.setIfInBounds_toArray, List.set_cons_zero, List.set_cons_succ])
            go_cut [76] (fun v76 wc => ∃ (kq : Nat) (x76_68 : Bool), v76 = .bool x76_68 ∧ Aside0 (laws_FnExactIdempotentOf.j1 kq t730 t731 x76_68 a0_0 l0_1 t726 t727 t738 t739 = some r) ∧ Aside0 (kq ≤ kj10) ∧ Aside0 (Kd.R (Kd.int .i64) 3 wc w.heap.size (fun k_ => some k_ ≠ ((.slice Ao29 t734.length co29) : Value).ownBlock ∧ some k_ ≠ ((.slice Ao36 t739.length co36) : Value).ownBlock) (.slice Ao22 t727.length co22) t727) ∧ Aside0 (Kd.R (Kd.int .i64) 3 wc w.heap.size (fun k_ => some k_ ≠ ((.slice Ao22 t727.length co22) : Value).ownBlock ∧ some k_ ≠ ((.slice Ao36 t739.length co36) : Value).ownBlock) (.slice Ao29 t734.length co29) t752) ∧ Aside0 (Kd.R (Kd.int .i64) 3 wc w.heap.size (fun k_ => some k_ ≠ ((.slice Ao22 t727.length co22) : Value).ownBlock ∧ some k_ ≠ ((.slice Ao29 t734.length co29) : Value).ownBlock) (.slice Ao36 t739.length co36) t739) ∧ Aside0 (wc.heap[gb720]? = some (.cells #[.int .i64 a0_0, (.slice A0_1 l0_1.length c0_1)] 26 (0, 0))) ∧ Aside0 (wc.heap[gb732]? = some (.cells #[.int .i64 t726, (.slice Ao22 t727.length co22)] 28 (0, 0))) ∧ Aside0 (wc.heap[gb737]? = some (.cells #[.int .i64 t733, (.slice Ao29 t734.length co29)] 28 (0, 0))) ∧ Aside0 (wc.heap[gb744]? = some (.cells #[.int .i64 t738, (.slice Ao36 t739.length co36)] 28 (0, 0))) ∧ Aside0 (Below w.heap.size w wc))
            case first =>
              have H := HC69.out
              clear HC69
              by_cases c79 : t751 < 0
              · rw [if_pos c79] at H
                have c79b0 : decide (t751 < 0) = true := decide_eq_true c79
                clear c79
                (first | rw [c79b0] | (simp only [i64_w, i32_w]; rw [c79b0]) | skip)
                have H' := Aside0.mk H
                clear H
                go_wp2
                go_meet
                case rel => exact ⟨_, (true), (by first | rfl | (simp; done) | (simp [*]; done)), H', ⟨by have := HJ10.out; first | omega | exact Nat.le_refl _⟩, ⟨by (with_reducible repeat (first | apply Kd.R_alloc | apply Kd.R_drewN | apply Kd.R_drew)); exact Kd.R_mono HO_733001.out (fun _ hk => ⟨hk.1, hk.2.1⟩)⟩, ⟨by (with_reducible repeat (first | apply Kd.R_alloc | apply Kd.R_drewN | apply Kd.R_drew)); exact Kd.R_mono HO_738001.out (fun _ hk => ⟨hk.1.1, hk.1.2⟩)⟩, ⟨by (with_reducible repeat (first | apply Kd.R_alloc | apply Kd.R_drewN | apply Kd.R_drew)); exact Kd.R_mono HO_745001.out (fun _ hk => ⟨hk.1, hk.2.1⟩)⟩, ⟨by (with_reducible repeat (first | refine blk_drewN ?_ _ | refine blk_drew ?_ | refine blk_alloc ?_ _)); exact BK720.out⟩, ⟨by (with_reducible repeat (first | refine blk_drewN ?_ _ | refine blk_drew ?_ | refine blk_alloc ?_ _)); exact BK732.out⟩, ⟨by (with_reducible repeat (first | refine blk_drewN ?_ _ | refine blk_drew ?_ | refine blk_alloc ?_ _)); exact BK737.out⟩, ⟨by (with_reducible repeat (first | refine blk_drewN ?_ _ | refine blk_drew ?_ | refine blk_alloc ?_ _)); exact BK744.out⟩, ⟨by repeat (first | (with_reducible first | exact HB.out | apply below_alloc | apply pw_below_drewN | apply below_drew1 | refine below_set ?_ GE720.out | refine below_set ?_ GE732.out | refine below_set ?_ GE737.out | refine below_set ?_ GE744.out) | exact HB.out)⟩⟩
              · rw [if_neg c79] at H
                have c79b0 : decide (t751 < 0) = false := decide_eq_false c79
                clear c79
                (first | rw [c79b0] | (simp only [i64_w, i32_w]; rw [c79b0]) | skip)
                replace H := Option.bind_eq_some_iff.mp H
                obtain ⟨t753, A800, H⟩ := H
                replace H : (if t753 = true then (if t742 = t730 then (laws_FnExactIdempotentOf.j1 kj10 t730 t731 (t743 != t731) a0_0 l0_1 t726 t727 t738 t739) else (laws_FnExactIdempotentOf.j1 kj10 t730 t731 true a0_0 l0_1 t726 t727 t738 t739)) else (laws_FnExactIdempotentOf.j1 kj10 t730 t731 true a0_0 l0_1 t726 t727 t738 t739)) = some r := H
                have A80 := Aside0.mk A800
                clear A800
                by_cases c81 : t753 = true
                · subst c81
                  have H1 : (if t742 = t730 then (laws_FnExactIdempotentOf.j1 kj10 t730 t731 (t743 != t731) a0_0 l0_1 t726 t727 t738 t739) else (laws_FnExactIdempotentOf.j1 kj10 t730 t731 true a0_0 l0_1 t726 t727 t738 t739)) = some r := by rw [if_pos rfl] at H; exact H
                  clear H
                  have H := H1
                  clear H1
                  by_cases c82 : t742 = t730
                  · rw [if_pos c82] at H
                    have c82b0 : (t742 == t730) = true := beq_iff_eq.mpr c82
                    have c82b1 : (t742 != t730) = false := bne_eq_false_iff_eq.mpr c82
                    clear c82
                    have H' := Aside0.mk H
                    clear H
                    have hnb83 := NB744_720.out
                    have hnc83 := NB720_744.out
                    have hnb84 := NB744_732.out
                    have hnc84 := NB732_744.out
                    have hnb85 := NB744_737.out
                    have hnc85 := NB737_744.out
                    have hcz86_0 : w78.cell? ⟨gb744, 0, none⟩ = some (.int .i64 t738) := (blk_cell BK744.out 0).trans rfl
                    have hcz86_1 : w78.cell? ⟨gb744, 1, none⟩ = some (.slice Ao36 t739.length co36) := (blk_cell BK744.out 1).trans rfl
                    have hfz86_0 := blk_frozen BK744.out 0
                    have hfz86_1 := blk_frozen BK744.out 1
                    have hnb87 := NB732_720.out
                    have hnc87 := NB720_732.out
                    have hnb88 := NB732_737.out
                    have hnc88 := NB737_732.out
                    have hcz89_0 : w78.cell? ⟨gb732, 0, none⟩ = some (.int .i64 t726) := (blk_cell BK732.out 0).trans rfl
                    have hcz89_1 : w78.cell? ⟨gb732, 1, none⟩ = some (.slice Ao22 t727.length co22) := (blk_cell BK732.out 1).trans rfl
                    have hfz89_0 := blk_frozen BK732.out 0
                    have hfz89_1 := blk_frozen BK732.out 1
                    go_wp2_with (first | (go_at_call 21; (with_reducible refine (laws_eqMatrix.calls kj10 t738 _ _ t739 t726 _ _ t727 true _ ?side1 ?side2 ?side3 ?side4 A80.out).mono ?_); (case side1 => repeat (first | exact (Kd.R_reads' HO_745001.out).2.2 | (with_reducible refine Kd.C_alloc ?_ _) | (with_reducible refine Kd.C_drewN ?_ _) | (with_reducible refine Kd.C_drew ?_))); (case side2 => exact (Kd.R_reads' HO_745001.out).2.1); (case side3 => repeat (first | exact (Kd.R_reads' HO_733001.out).2.2 | (with_reducible refine Kd.C_alloc ?_ _) | (with_reducible refine Kd.C_drewN ?_ _) | (with_reducible refine Kd.C_drew ?_))); (case side4 => exact (Kd.R_reads' HO_733001.out).2.1); rintro e w90 ⟨rfl, hb⟩; have n0_ := Aside0.mk (Kd.R_below (by (with_reducible repeat (first | apply Kd.R_alloc | apply Kd.R_drewN | apply Kd.R_drew)); exact HO_733001.out) hb); have n1_ := Aside0.mk (Kd.R_below (by (with_reducible repeat (first | apply Kd.R_alloc | apply Kd.R_drewN | apply Kd.R_drew)); exact HO_738001.out) hb); have n2_ := Aside0.mk (Kd.R_below (by (with_reducible repeat (first | apply Kd.R_alloc | apply Kd.R_drewN | apply Kd.R_drew)); exact HO_745001.out) hb); have n3_ := Aside0.mk (Kd.R_below (by (with_reducible repeat (first | apply Kd.R_alloc | apply Kd.R_drewN | apply Kd.R_drew)); exact HO749.out) hb); have n4_ := Aside0.mk (blk_below (g := gb720) (o := .cells #[.int .i64 a0_0, .slice A0_1 l0_1.length c0_1] 26 (0, 0)) (by (with_reducible repeat (first | refine blk_drewN ?_ _ | refine blk_drew ?_ | refine blk_alloc ?_ _)); exact BK720.out) hb); have n5_ := Aside0.mk (blk_below (g := gb732) (o := .cells #[.int .i64 t726, .slice Ao22 t727.length co22] 28 (0, 0)) (by (with_reducible repeat (first | refine blk_drewN ?_ _ | refine blk_drew ?_ | refine blk_alloc ?_ _)); exact BK732.out) hb); have n6_ := Aside0.mk (blk_below (g := gb737) (o := .cells #[.int .i64 t733, .slice Ao29 t734.length co29] 28 (0, 0)) (by (with_reducible repeat (first | refine blk_drewN ?_ _ | refine blk_drew ?_ | refine blk_alloc ?_ _)); exact BK737.out) hb); have n7_ := Aside0.mk (blk_below (g := gb744) (o := .cells #[.int .i64 t738, .slice Ao36 t739.length co36] 28 (0, 0)) (by (with_reducible repeat (first | refine blk_drewN ?_ _ | refine blk_drew ?_ | refine blk_alloc ?_ _)); exact BK744.out) hb); have n8_ := Aside0.mk (below_step (by repeat (first | (with_reducible first | exact HB.out | apply below_alloc | apply pw_below_drewN | apply below_drew1 | refine below_set ?_ GE720.out | refine below_set ?_ GE732.out | refine below_set ?_ GE737.out | refine below_set ?_ GE744.out) | exact HB.out)) hb); clear HO_733001; clear HO_738001; clear HO_745001; clear HO749; clear BK720; clear BK732; clear BK737; clear BK744; clear HB; have HO_733001 := n0_; have HO_738001 := n1_; have HO_745001 := n2_; have HO749 := n3_; have BK720 := n4_; have BK732 := n5_; have BK737 := n6_; have BK744 := n7_; have HB := n8_; clear n0_ n1_ n2_ n3_ n4_ n5_ n6_ n7_ n8_; (try clear hb); (try clear hb2); (try clear hk); (try clear hi)))
                    go_meet
                    case rel => exact ⟨_, ((t743 != t731)), (by first | rfl | (simp; done) | (simp [*]; done)), H', ⟨by have := HJ10.out; first | omega | exact Nat.le_refl _⟩, ⟨by (with_reducible repeat (first | apply Kd.R_alloc | apply Kd.R_drewN | apply Kd.R_drew)); exact Kd.R_mono HO_733001.out (fun _ hk => ⟨hk.1, hk.2.1⟩)⟩, ⟨by (with_reducible repeat (first | apply Kd.R_alloc | apply Kd.R_drewN | apply Kd.R_drew)); exact Kd.R_mono HO_738001.out (fun _ hk => ⟨hk.1.1, hk.1.2⟩)⟩, ⟨by (with_reducible repeat (first | apply Kd.R_alloc | apply Kd.R_drewN | apply Kd.R_drew)); exact Kd.R_mono HO_745001.out (fun _ hk => ⟨hk.1, hk.2.1⟩)⟩, ⟨by (with_reducible repeat (first | refine blk_drewN ?_ _ | refine blk_drew ?_ | refine blk_alloc ?_ _)); exact BK720.out⟩, ⟨by (with_reducible repeat (first | refine blk_drewN ?_ _ | refine blk_drew ?_ | refine blk_alloc ?_ _)); exact BK732.out⟩, ⟨by (with_reducible repeat (first | refine blk_drewN ?_ _ | refine blk_drew ?_ | refine blk_alloc ?_ _)); exact BK737.out⟩, ⟨by (with_reducible repeat (first | refine blk_drewN ?_ _ | refine blk_drew ?_ | refine blk_alloc ?_ _)); exact BK744.out⟩, ⟨by repeat (first | (with_reducible first | exact HB.out | apply below_alloc | apply pw_below_drewN | apply below_drew1 | refine below_set ?_ GE720.out | refine below_set ?_ GE732.out | refine below_set ?_ GE737.out | refine below_set ?_ GE744.out) | exact HB.out)⟩⟩
                  · rw [if_neg c82] at H
                    have c82b0 : (t742 == t730) = false := beq_eq_false_iff_ne.mpr c82
                    have c82b1 : (t742 != t730) = true := bne_iff_ne.mpr c82
                    have H' := Aside0.mk H
                    clear H
                    have hnb91 := NB744_720.out
                    have hnc91 := NB720_744.out
                    have hnb92 := NB744_732.out
                    have hnc92 := NB732_744.out
                    have hnb93 := NB744_737.out
                    have hnc93 := NB737_744.out
                    have hcz94_0 : w78.cell? ⟨gb744, 0, none⟩ = some (.int .i64 t738) := (blk_cell BK744.out 0).trans rfl
                    have hcz94_1 : w78.cell? ⟨gb744, 1, none⟩ = some (.slice Ao36 t739.length co36) := (blk_cell BK744.out 1).trans rfl
                    have hfz94_0 := blk_frozen BK744.out 0
                    have hfz94_1 := blk_frozen BK744.out 1
                    have hnb95 := NB732_720.out
                    have hnc95 := NB720_732.out
                    have hnb96 := NB732_737.out
                    have hnc96 := NB737_732.out
                    have hcz97_0 : w78.cell? ⟨gb732, 0, none⟩ = some (.int .i64 t726) := (blk_cell BK732.out 0).trans rfl
                    have hcz97_1 : w78.cell? ⟨gb732, 1, none⟩ = some (.slice Ao22 t727.length co22) := (blk_cell BK732.out 1).trans rfl
                    have hfz97_0 := blk_frozen BK732.out 0
                    have hfz97_1 := blk_frozen BK732.out 1
                    go_wp2_with (first | (go_at_call 21; (with_reducible refine (laws_eqMatrix.calls kj10 t738 _ _ t739 t726 _ _ t727 true _ ?side1 ?side2 ?side3 ?side4 A80.out).mono ?_); (case side1 => repeat (first | exact (Kd.R_reads' HO_745001.out).2.2 | (with_reducible refine Kd.C_alloc ?_ _) | (with_reducible refine Kd.C_drewN ?_ _) | (with_reducible refine Kd.C_drew ?_))); (case side2 => exact (Kd.R_reads' HO_745001.out).2.1); (case side3 => repeat (first | exact (Kd.R_reads' HO_733001.out).2.2 | (with_reducible refine Kd.C_alloc ?_ _) | (with_reducible refine Kd.C_drewN ?_ _) | (with_reducible refine Kd.C_drew ?_))); (case side4 => exact (Kd.R_reads' HO_733001.out).2.1); rintro e w98 ⟨rfl, hb⟩; have n0_ := Aside0.mk (Kd.R_below (by (with_reducible repeat (first | apply Kd.R_alloc | apply Kd.R_drewN | apply Kd.R_drew)); exact HO_733001.out) hb); have n1_ := Aside0.mk (Kd.R_below (by (with_reducible repeat (first | apply Kd.R_alloc | apply Kd.R_drewN | apply Kd.R_drew)); exact HO_738001.out) hb); have n2_ := Aside0.mk (Kd.R_below (by (with_reducible repeat (first | apply Kd.R_alloc | apply Kd.R_drewN | apply Kd.R_drew)); exact HO_745001.out) hb); have n3_ := Aside0.mk (Kd.R_below (by (with_reducible repeat (first | apply Kd.R_alloc | apply Kd.R_drewN | apply Kd.R_drew)); exact HO749.out) hb); have n4_ := Aside0.mk (blk_below (g := gb720) (o := .cells #[.int .i64 a0_0, .slice A0_1 l0_1.length c0_1] 26 (0, 0)) (by (with_reducible repeat (first | refine blk_drewN ?_ _ | refine blk_drew ?_ | refine blk_alloc ?_ _)); exact BK720.out) hb); have n5_ := Aside0.mk (blk_below (g := gb732) (o := .cells #[.int .i64 t726, .slice Ao22 t727.length co22] 28 (0, 0)) (by (with_reducible repeat (first | refine blk_drewN ?_ _ | refine blk_drew ?_ | refine blk_alloc ?_ _)); exact BK732.out) hb); have n6_ := Aside0.mk (blk_below (g := gb737) (o := .cells #[.int .i64 t733, .slice Ao29 t734.length co29] 28 (0, 0)) (by (with_reducible repeat (first | refine blk_drewN ?_ _ | refine blk_drew ?_ | refine blk_alloc ?_ _)); exact BK737.out) hb); have n7_ := Aside0.mk (blk_below (g := gb744) (o := .cells #[.int .i64 t738, .slice Ao36 t739.length co36] 28 (0, 0)) (by (with_reducible repeat (first | refine blk_drewN ?_ _ | refine blk_drew ?_ | refine blk_alloc ?_ _)); exact BK744.out) hb); have n8_ := Aside0.mk (below_step (by repeat (first | (with_reducible first | exact HB.out | apply below_alloc | apply pw_below_drewN | apply below_drew1 | refine below_set ?_ GE720.out | refine below_set ?_ GE732.out | refine below_set ?_ GE737.out | refine below_set ?_ GE744.out) | exact HB.out)) hb); clear HO_733001; clear HO_738001; clear HO_745001; clear HO749; clear BK720; clear BK732; clear BK737; clear BK744; clear HB; have HO_733001 := n0_; have HO_738001 := n1_; have HO_745001 := n2_; have HO749 := n3_; have BK720 := n4_; have BK732 := n5_; have BK737 := n6_; have BK744 := n7_; have HB := n8_; clear n0_ n1_ n2_ n3_ n4_ n5_ n6_ n7_ n8_; (try clear hb); (try clear hb2); (try clear hk); (try clear hi)))
                    go_meet
                    case rel => exact ⟨_, (true), (by first | rfl | (simp; done) | (simp [*]; done)), H', ⟨by have := HJ10.out; first | omega | exact Nat.le_refl _⟩, ⟨by (with_reducible repeat (first | apply Kd.R_alloc | apply Kd.R_drewN | apply Kd.R_drew)); exact Kd.R_mono HO_733001.out (fun _ hk => ⟨hk.1, hk.2.1⟩)⟩, ⟨by (with_reducible repeat (first | apply Kd.R_alloc | apply Kd.R_drewN | apply Kd.R_drew)); exact Kd.R_mono HO_738001.out (fun _ hk => ⟨hk.1.1, hk.1.2⟩)⟩, ⟨by (with_reducible repeat (first | apply Kd.R_alloc | apply Kd.R_drewN | apply Kd.R_drew)); exact Kd.R_mono HO_745001.out (fun _ hk => ⟨hk.1, hk.2.1⟩)⟩, ⟨by (with_reducible repeat (first | refine blk_drewN ?_ _ | refine blk_drew ?_ | refine blk_alloc ?_ _)); exact BK720.out⟩, ⟨by (with_reducible repeat (first | refine blk_drewN ?_ _ | refine blk_drew ?_ | refine blk_alloc ?_ _)); exact BK732.out⟩, ⟨by (with_reducible repeat (first | refine blk_drewN ?_ _ | refine blk_drew ?_ | refine blk_alloc ?_ _)); exact BK737.out⟩, ⟨by (with_reducible repeat (first | refine blk_drewN ?_ _ | refine blk_drew ?_ | refine blk_alloc ?_ _)); exact BK744.out⟩, ⟨by repeat (first | (with_reducible first | exact HB.out | apply below_alloc | apply pw_below_drewN | apply below_drew1 | refine below_set ?_ GE720.out | refine below_set ?_ GE732.out | refine below_set ?_ GE737.out | refine below_set ?_ GE744.out) | exact HB.out)⟩⟩
                · replace c81 := Bool.eq_false_iff.mpr c81
                  subst c81
                  have H1 : (laws_FnExactIdempotentOf.j1 kj10 t730 t731 true a0_0 l0_1 t726 t727 t738 t739) = some r := by rw [if_neg (show ¬ (false = true) by decide)] at H; exact H
                  clear H
                  have H := H1
                  clear H1
                  have H' := Aside0.mk H
                  clear H
                  have hnb99 := NB744_720.out
                  have hnc99 := NB720_744.out
                  have hnb100 := NB744_732.out
                  have hnc100 := NB732_744.out
                  have hnb101 := NB744_737.out
                  have hnc101 := NB737_744.out
                  have hcz102_0 : w78.cell? ⟨gb744, 0, none⟩ = some (.int .i64 t738) := (blk_cell BK744.out 0).trans rfl
                  have hcz102_1 : w78.cell? ⟨gb744, 1, none⟩ = some (.slice Ao36 t739.length co36) := (blk_cell BK744.out 1).trans rfl
                  have hfz102_0 := blk_frozen BK744.out 0
                  have hfz102_1 := blk_frozen BK744.out 1
                  have hnb103 := NB732_720.out
                  have hnc103 := NB720_732.out
                  have hnb104 := NB732_737.out
                  have hnc104 := NB737_732.out
                  have hcz105_0 : w78.cell? ⟨gb732, 0, none⟩ = some (.int .i64 t726) := (blk_cell BK732.out 0).trans rfl
                  have hcz105_1 : w78.cell? ⟨gb732, 1, none⟩ = some (.slice Ao22 t727.length co22) := (blk_cell BK732.out 1).trans rfl
                  have hfz105_0 := blk_frozen BK732.out 0
                  have hfz105_1 := blk_frozen BK732.out 1
                  go_wp2_with (first | (go_at_call 21; (with_reducible refine (laws_eqMatrix.calls kj10 t738 _ _ t739 t726 _ _ t727 false _ ?side1 ?side2 ?side3 ?side4 A80.out).mono ?_); (case side1 => repeat (first | exact (Kd.R_reads' HO_745001.out).2.2 | (with_reducible refine Kd.C_alloc ?_ _) | (with_reducible refine Kd.C_drewN ?_ _) | (with_reducible refine Kd.C_drew ?_))); (case side2 => exact (Kd.R_reads' HO_745001.out).2.1); (case side3 => repeat (first | exact (Kd.R_reads' HO_733001.out).2.2 | (with_reducible refine Kd.C_alloc ?_ _) | (with_reducible refine Kd.C_drewN ?_ _) | (with_reducible refine Kd.C_drew ?_))); (case side4 => exact (Kd.R_reads' HO_733001.out).2.1); rintro e w106 ⟨rfl, hb⟩; have n0_ := Aside0.mk (Kd.R_below (by (with_reducible repeat (first | apply Kd.R_alloc | apply Kd.R_drewN | apply Kd.R_drew)); exact HO_733001.out) hb); have n1_ := Aside0.mk (Kd.R_below (by (with_reducible repeat (first | apply Kd.R_alloc | apply Kd.R_drewN | apply Kd.R_drew)); exact HO_738001.out) hb); have n2_ := Aside0.mk (Kd.R_below (by (with_reducible repeat (first | apply Kd.R_alloc | apply Kd.R_drewN | apply Kd.R_drew)); exact HO_745001.out) hb); have n3_ := Aside0.mk (Kd.R_below (by (with_reducible repeat (first | apply Kd.R_alloc | apply Kd.R_drewN | apply Kd.R_drew)); exact HO749.out) hb); have n4_ := Aside0.mk (blk_below (g := gb720) (o := .cells #[.int .i64 a0_0, .slice A0_1 l0_1.length c0_1] 26 (0, 0)) (by (with_reducible repeat (first | refine blk_drewN ?_ _ | refine blk_drew ?_ | refine blk_alloc ?_ _)); exact BK720.out) hb); have n5_ := Aside0.mk (blk_below (g := gb732) (o := .cells #[.int .i64 t726, .slice Ao22 t727.length co22] 28 (0, 0)) (by (with_reducible repeat (first | refine blk_drewN ?_ _ | refine blk_drew ?_ | refine blk_alloc ?_ _)); exact BK732.out) hb); have n6_ := Aside0.mk (blk_below (g := gb737) (o := .cells #[.int .i64 t733, .slice Ao29 t734.length co29] 28 (0, 0)) (by (with_reducible repeat (first | refine blk_drewN ?_ _ | refine blk_drew ?_ | refine blk_alloc ?_ _)); exact BK737.out) hb); have n7_ := Aside0.mk (blk_below (g := gb744) (o := .cells #[.int .i64 t738, .slice Ao36 t739.length co36] 28 (0, 0)) (by (with_reducible repeat (first | refine blk_drewN ?_ _ | refine blk_drew ?_ | refine blk_alloc ?_ _)); exact BK744.out) hb); have n8_ := Aside0.mk (below_step (by repeat (first | (with_reducible first | exact HB.out | apply below_alloc | apply pw_below_drewN | apply below_drew1 | refine below_set ?_ GE720.out | refine below_set ?_ GE732.out | refine below_set ?_ GE737.out | refine below_set ?_ GE744.out) | exact HB.out)) hb); clear HO_733001; clear HO_738001; clear HO_745001; clear HO749; clear BK720; clear BK732; clear BK737; clear BK744; clear HB; have HO_733001 := n0_; have HO_738001 := n1_; have HO_745001 := n2_; have HO749 := n3_; have BK720 := n4_; have BK732 := n5_; have BK737 := n6_; have BK744 := n7_; have HB := n8_; clear n0_ n1_ n2_ n3_ n4_ n5_ n6_ n7_ n8_; (try clear hb); (try clear hb2); (try clear hk); (try clear hi)))
                  go_meet
                  case rel => exact ⟨_, (true), (by first | rfl | (simp; done) | (simp [*]; done)), H', ⟨by have := HJ10.out; first | omega | exact Nat.le_refl _⟩, ⟨by (with_reducible repeat (first | apply Kd.R_alloc | apply Kd.R_drewN | apply Kd.R_drew)); exact Kd.R_mono HO_733001.out (fun _ hk => ⟨hk.1, hk.2.1⟩)⟩, ⟨by (with_reducible repeat (first | apply Kd.R_alloc | apply Kd.R_drewN | apply Kd.R_drew)); exact Kd.R_mono HO_738001.out (fun _ hk => ⟨hk.1.1, hk.1.2⟩)⟩, ⟨by (with_reducible repeat (first | apply Kd.R_alloc | apply Kd.R_drewN | apply Kd.R_drew)); exact Kd.R_mono HO_745001.out (fun _ hk => ⟨hk.1, hk.2.1⟩)⟩, ⟨by (with_reducible repeat (first | refine blk_drewN ?_ _ | refine blk_drew ?_ | refine blk_alloc ?_ _)); exact BK720.out⟩, ⟨by (with_reducible repeat (first | refine blk_drewN ?_ _ | refine blk_drew ?_ | refine blk_alloc ?_ _)); exact BK732.out⟩, ⟨by (with_reducible repeat (first | refine blk_drewN ?_ _ | refine blk_drew ?_ | refine blk_alloc ?_ _)); exact BK737.out⟩, ⟨by (with_reducible repeat (first | refine blk_drewN ?_ _ | refine blk_drew ?_ | refine blk_alloc ?_ _)); exact BK744.out⟩, ⟨by repeat (first | (with_reducible first | exact HB.out | apply below_alloc | apply pw_below_drewN | apply below_drew1 | refine below_set ?_ GE720.out | refine below_set ?_ GE732.out | refine below_set ?_ GE737.out | refine below_set ?_ GE744.out) | exact HB.out)⟩⟩
            case rest =>
              clear HC69
              try clear c1
              try clear c2
              try clear p2
              try clear c3
              try clear c3b0
              try clear c4
              try clear c5
              try clear c6
              try clear c7
              try clear c8
              try clear c9
              try clear c10
              try clear c17
              try clear c19
              try clear c20
              try clear c21
              try clear c22
              try clear c26
              try clear c27
              try clear c29
              try clear c30
              try clear c32
              try clear c33
              try clear c34
              try clear c38
              try clear c39
              try clear c39b0
              try clear c39b1
              try clear c40
              try clear c41
              try clear c42
              try clear c44
              try clear c45
              try clear c48
              try clear c49
              try clear c50
              try clear c52
              try clear c53
              try clear c56
              try clear c57
              try clear c58
              try clear c60
              try clear c61
              try clear c64
              try clear c67
              try clear c74
              try clear c75
              try clear c76
              try clear c79
              try clear c79b0
              try clear c81
              try clear c82
              try clear c82b0
              try clear c82b1
              try clear c83
              try clear c84
              try clear c85
              try clear c87
              try clear c88
              try clear c91
              try clear c92
              try clear c93
              try clear c95
              try clear c96
              try clear c99
              try clear c100
              try clear c101
              try clear c103
              try clear c104
              try clear hcz102_0
              try clear hcz102_1
              try clear hcz105_0
              try clear hcz105_1
              try clear hcz13_0
              try clear hcz13_1
              try clear hcz15_0
              try clear hcz15_1
              try clear hcz21_0
              try clear hcz21_1
              try clear hcz23_0
              try clear hcz23_1
              try clear hcz28_0
              try clear hcz28_1
              try clear hcz35_0
              try clear hcz35_1
              try clear hcz43_0
              try clear hcz43_1
              try clear hcz46_0
              try clear hcz46_1
              try clear hcz51_0
              try clear hcz51_1
              try clear hcz54_0
              try clear hcz54_1
              try clear hcz59_0
              try clear hcz59_1
              try clear hcz5_0
              try clear hcz5_1
              try clear hcz62_0
              try clear hcz62_1
              try clear hcz77_0
              try clear hcz77_1
              try clear hcz86_0
              try clear hcz86_1
              try clear hcz89_0
              try clear hcz89_1
              try clear hcz94_0
              try clear hcz94_1
              try clear hcz97_0
              try clear hcz97_1
              try clear hfz102_0
              try clear hfz102_1
              try clear hfz105_0
              try clear hfz105_1
              try clear hfz13_0
              try clear hfz13_1
              try clear hfz15_0
              try clear hfz15_1
              try clear hfz21_0
              try clear hfz21_1
              try clear hfz23_0
              try clear hfz23_1
              try clear hfz28_0
              try clear hfz28_1
              try clear hfz35_0
              try clear hfz35_1
              try clear hfz43_0
              try clear hfz43_1
              try clear hfz46_0
              try clear hfz46_1
              try clear hfz51_0
              try clear hfz51_1
              try clear hfz54_0
              try clear hfz54_1
              try clear hfz59_0
              try clear hfz59_1
              try clear hfz5_0
              try clear hfz5_1
              try clear hfz62_0
              try clear hfz62_1
              try clear hfz77_0
              try clear hfz77_1
              try clear hfz86_0
              try clear hfz86_1
              try clear hfz89_0
              try clear hfz89_1
              try clear hfz94_0
              try clear hfz94_1
              try clear hfz97_0
              try clear hfz97_1
              try clear p2
              obtain ⟨kq, x76_68, rfl, HA, HJ68, HO_733001, HO_738001, HO_745001, BK720, BK732, BK737, BK744, HB⟩ := hcut
              have hl738001_68 := (Kd.R_reads' HO_738001.out).1
              rw [hl738001_68] at HO_738001
              (try simp only [hl738001_68])
              (try simp only [hl738001_68] at BK720)
              (try simp only [hl738001_68] at BK732)
              (try simp only [hl738001_68] at BK737)
              (try simp only [hl738001_68] at BK744)
              (try simp only [hl738001_68] at HO_733001)
              (try simp only [hl738001_68] at HO_745001)
              cases kq with
              | zero => exact absurd HA.out (by simp [laws_FnExactIdempotentOf.j1])
              | succ kj68 =>
                have H := HA.out
                clear HA
                simp only [laws_FnExactIdempotentOf.j1] at H
                by_cases c107 : x76_68 = true
                · subst c107
                  have H1 : (some false) = some r := by rw [if_pos rfl] at H; exact H
                  clear H
                  have H := H1
                  clear H1
                  obtain rfl := Option.some.inj H
                  go_wp2
                  go_ret
                  exact ⟨by first | rfl | (simp [errW_none, errW_some] <;> rfl) | (simp [*, errW_none, errW_some] <;> rfl), by repeat (first | (with_reducible first | exact HB.out | apply below_alloc | apply pw_below_drewN | apply below_drew1 | refine below_set ?_ GE720.out | refine below_set ?_ GE732.out | refine below_set ?_ GE737.out | refine below_set ?_ GE744.out) | exact HB.out)⟩
                · replace c107 := Bool.eq_false_iff.mpr c107
                  subst c107
                  have H1 : ((laws_markMatrix.f kj68 t738 t739 1).bind fun bt754 => ((laws_heldMatrix.f kj68 t738 bt754.2 1).bind fun t756 => (if t756 < 0 then (some false) else (if t756 = bt754.1 then ((laws_toMatrix.f kj68 a0_0 l0_1).bind fun bt757 => ((impl_IdempotentOf.f kj68 bt757.1 bt757.2).bind fun bt761 => ((laws_eqMatrix.f kj68 bt761.1 bt761.2.1 t726 t727).bind fun t768 => (if t768 = true then (if bt761.2.2.1 = t730 then (laws_FnExactIdempotentOf.j2 kj68 bt754.1 (bt761.2.2.2 != t731) t738 bt754.2) else (laws_FnExactIdempotentOf.j2 kj68 bt754.1 true t738 bt754.2)) else (laws_FnExactIdempotentOf.j2 kj68 bt754.1 true t738 bt754.2))))) else (some false))))) = some r := by rw [if_neg (show ¬ (false = true) by decide)] at H; exact H
                  clear H
                  have H := H1
                  clear H1
                  replace H := Option.bind_eq_some_iff.mp H
                  obtain ⟨⟨t754, t755⟩, A1080, H⟩ := H
                  replace H : ((laws_heldMatrix.f kj68 t738 t755 1).bind fun t756 => (if t756 < 0 then (some false) else (if t756 = t754 then ((laws_toMatrix.f kj68 a0_0 l0_1).bind fun bt757 => ((impl_IdempotentOf.f kj68 bt757.1 bt757.2).bind fun bt761 => ((laws_eqMatrix.f kj68 bt761.1 bt761.2.1 t726 t727).bind fun t768 => (if t768 = true then (if bt761.2.2.1 = t730 then (laws_FnExactIdempotentOf.j2 kj68 t754 (bt761.2.2.2 != t731) t738 t755) else (laws_FnExactIdempotentOf.j2 kj68 t754 true t738 t755)) else (laws_FnExactIdempotentOf.j2 kj68 t754 true t738 t755))))) else (some false)))) = some r := H
                  have A108 := Aside0.mk A1080
                  clear A1080
                  replace H := Option.bind_eq_some_iff.mp H
                  obtain ⟨t756, A1090, H⟩ := H
                  replace H : (if t756 < 0 then (some false) else (if t756 = t754 then ((laws_toMatrix.f kj68 a0_0 l0_1).bind fun bt757 => ((impl_IdempotentOf.f kj68 bt757.1 bt757.2).bind fun bt761 => ((laws_eqMatrix.f kj68 bt761.1 bt761.2.1 t726 t727).bind fun t768 => (if t768 = true then (if bt761.2.2.1 = t730 then (laws_FnExactIdempotentOf.j2 kj68 t754 (bt761.2.2.2 != t731) t738 t755) else (laws_FnExactIdempotentOf.j2 kj68 t754 true t738 t755)) else (laws_FnExactIdempotentOf.j2 kj68 t754 true t738 t755))))) else (some false))) = some r := H
                  have A109 := Aside0.mk A1090
                  clear A1090
                  by_cases c110 : t756 < 0
                  · rw [if_pos c110] at H
                    have c110b0 : decide (t756 < 0) = true := decide_eq_true c110
                    clear c110
                    obtain rfl := Option.some.inj H
                    have hnb111 := NB744_720.out
                    have hnc111 := NB720_744.out
                    have hnb112 := NB744_732.out
                    have hnc112 := NB732_744.out
                    have hnb113 := NB744_737.out
                    have hnc113 := NB737_744.out
                    have hcz114_0 : wc.cell? ⟨gb744, 0, none⟩ = some (.int .i64 t738) := (blk_cell BK744.out 0).trans rfl
                    have hcz114_1 : wc.cell? ⟨gb744, 1, none⟩ = some (.slice Ao36 t739.length co36) := (blk_cell BK744.out 1).trans rfl
                    have hfz114_0 := blk_frozen BK744.out 0
                    have hfz114_1 := blk_frozen BK744.out 1
                    go_wp2_with (first | ((with_reducible refine gate_callee (f := 22) rfl ?_); refine goesL_ (some 79) rfl rfl Try.func22 (by kernel_rfl) rfl #[.agg #[.int .i64 t738, .slice Ao36 t739.length co36], .int .i64 1] rfl (by (try simp only [List.map_toArray, List.map_cons, List.map_nil]); first | done | rfl | (simp only [List.length_drop, List.length_take]; rfl)) ?_; (with_reducible refine (laws_markMatrix.calls kj68 t738 (fun k_ => some k_ = (.slice Ao36 t739.length co36 : Value).ownBlock) (.slice Ao36 t739.length co36) t739 1 t754 t755 w _ ?side1 ?side2 A108.out).mono ?_); (case side1 => repeat (first | (with_reducible first | exact HB.out | apply below_alloc | apply pw_below_drewN | apply below_drew1 | refine below_set ?_ GE720.out | refine below_set ?_ GE732.out | refine below_set ?_ GE737.out | refine below_set ?_ GE744.out) | exact HB.out)); (case side2 => exact Kd.R_tight rfl HO_745001.out); rintro e w115 ⟨rfl, hy0, hb, hkp⟩; refine ⟨_, rfl, ?_⟩; have n0_ := Aside0.mk (Kd.R_mono (ok' := fun k_ => some k_ ≠ (.slice Ao29 t752.length co29 : Value).ownBlock ∧ some k_ ≠ (.slice Ao36 t739.length co36 : Value).ownBlock) (Kd.R_keptB (HO_733001.out) hkp (fun k_ hk_ hs_ => (hk_.2) hs_)) (fun k_ hk_ => ⟨hk_.1.1, hk_.1.2⟩)); have n1_ := Aside0.mk (Kd.R_mono (ok' := fun k_ => some k_ ≠ (.slice Ao22 t727.length co22 : Value).ownBlock ∧ some k_ ≠ (.slice Ao36 t739.length co36 : Value).ownBlock) (Kd.R_keptB (HO_738001.out) hkp (fun k_ hk_ hs_ => (hk_.2) hs_)) (fun k_ hk_ => ⟨hk_.1.1, hk_.1.2⟩)); have n2_ := Aside0.mk (Kd.R_reok rfl hy0 (fun k_ e_ => HO_745001.out.1 k_ e_)); have n3_ := Aside0.mk (blk_kept (by (with_reducible repeat (first | refine blk_drewN ?_ _ | refine blk_drew ?_ | refine blk_alloc ?_ _)); exact BK720.out) hkp (fun hs_ => (fun e_ => (Kd.R_ne HO_745001.out BK720.out (by decide)) e_) hs_)); have n4_ := Aside0.mk (blk_kept (by (with_reducible repeat (first | refine blk_drewN ?_ _ | refine blk_drew ?_ | refine blk_alloc ?_ _)); exact BK732.out) hkp (fun hs_ => (fun e_ => (Kd.R_ne HO_745001.out BK732.out (by decide)) e_) hs_)); have n5_ := Aside0.mk (blk_kept (by (with_reducible repeat (first | refine blk_drewN ?_ _ | refine blk_drew ?_ | refine blk_alloc ?_ _)); exact BK737.out) hkp (fun hs_ => (fun e_ => (Kd.R_ne HO_745001.out BK737.out (by decide)) e_) hs_)); have n6_ := Aside0.mk (blk_kept (by (with_reducible repeat (first | refine blk_drewN ?_ _ | refine blk_drew ?_ | refine blk_alloc ?_ _)); exact BK744.out) hkp (fun hs_ => (fun e_ => (Kd.R_ne HO_745001.out BK744.out (by decide)) e_) hs_)); have n7_ := Aside0.mk (hb); clear HO_733001; clear HO_738001; clear HO_745001; clear BK720; clear BK732; clear BK737; clear BK744; clear HB; have HO_733001 := n0_; have HO_738001 := n1_; have HO_745001 := n2_; have BK720 := n3_; have BK732 := n4_; have BK737 := n5_; have BK744 := n6_; have HB := n7_; clear n0_ n1_ n2_ n3_ n4_ n5_ n6_ n7_; (try clear hb); (try clear hkp); (try clear hy0); have hcz116_0 : w115.cell? ⟨gb744, 0, none⟩ = some (.int .i64 t738) := (blk_cell BK744.out 0).trans rfl; have hcz116_1 : w115.cell? ⟨gb744, 1, none⟩ = some (.slice Ao36 t739.length co36) := (blk_cell BK744.out 1).trans rfl; have hfz116_0 := blk_frozen BK744.out 0; have hfz116_1 := blk_frozen BK744.out 1) | ((with_reducible refine gate_callee (f := 23) rfl ?_); refine goesL_ (some 82) rfl rfl Try.func23 (by kernel_rfl) rfl #[.agg #[.int .i64 t738, .slice Ao36 t755.length co36], .int .i64 1] rfl (by (try simp only [List.map_toArray, List.map_cons, List.map_nil]); first | done | (rw [show t755.length = t739.length from (Kd.R_reads' HO_745001.out).1.symm] <;> rfl) | rfl | (simp only [List.length_drop, List.length_take]; rfl)) ?_; (with_reducible refine (laws_heldMatrix.calls kj68 t738 _ _ t755 1 t756 _ ?side1 ?side2 A109.out).mono ?_); (case side1 => repeat (first | exact (Kd.R_reads' HO_745001.out).2.2 | (with_reducible refine Kd.C_alloc ?_ _) | (with_reducible refine Kd.C_drewN ?_ _) | (with_reducible refine Kd.C_drew ?_))); (case side2 => rw [show t755.length = t739.length from (Kd.R_reads' HO_745001.out).1.symm]; exact (Kd.R_reads' HO_745001.out).2.1); rintro e w117 ⟨rfl, hb⟩; refine ⟨_, rfl, ?_⟩; have n0_ := Aside0.mk (Kd.R_below (by (with_reducible repeat (first | apply Kd.R_alloc | apply Kd.R_drewN | apply Kd.R_drew)); exact HO_733001.out) hb); have n1_ := Aside0.mk (Kd.R_below (by (with_reducible repeat (first | apply Kd.R_alloc | apply Kd.R_drewN | apply Kd.R_drew)); exact HO_738001.out) hb); have n2_ := Aside0.mk (Kd.R_below (by (with_reducible repeat (first | apply Kd.R_alloc | apply Kd.R_drewN | apply Kd.R_drew)); exact HO_745001.out) hb); have n3_ := Aside0.mk (blk_below (g := gb720) (o := .cells #[.int .i64 a0_0, .slice A0_1 l0_1.length c0_1] 26 (0, 0)) (by (with_reducible repeat (first | refine blk_drewN ?_ _ | refine blk_drew ?_ | refine blk_alloc ?_ _)); exact BK720.out) hb); have n4_ := Aside0.mk (blk_below (g := gb732) (o := .cells #[.int .i64 t726, .slice Ao22 t727.length co22] 28 (0, 0)) (by (with_reducible repeat (first | refine blk_drewN ?_ _ | refine blk_drew ?_ | refine blk_alloc ?_ _)); exact BK732.out) hb); have n5_ := Aside0.mk (blk_below (g := gb737) (o := .cells #[.int .i64 t733, .slice Ao29 t752.length co29] 28 (0, 0)) (by (with_reducible repeat (first | refine blk_drewN ?_ _ | refine blk_drew ?_ | refine blk_alloc ?_ _)); exact BK737.out) hb); have n6_ := Aside0.mk (blk_below (g := gb744) (o := .cells #[.int .i64 t738, .slice Ao36 t739.length co36] 28 (0, 0)) (by (with_reducible repeat (first | refine blk_drewN ?_ _ | refine blk_drew ?_ | refine blk_alloc ?_ _)); exact BK744.out) hb); have n7_ := Aside0.mk (below_step (by repeat (first | (with_reducible first | exact HB.out | apply below_alloc | apply pw_below_drewN | apply below_drew1 | refine below_set ?_ GE720.out | refine below_set ?_ GE732.out | refine below_set ?_ GE737.out | refine below_set ?_ GE744.out) | exact HB.out)) hb); clear HO_733001; clear HO_738001; clear HO_745001; clear BK720; clear BK732; clear BK737; clear BK744; clear HB; have HO_733001 := n0_; have HO_738001 := n1_; have HO_745001 := n2_; have BK720 := n3_; have BK732 := n4_; have BK737 := n5_; have BK744 := n6_; have HB := n7_; clear n0_ n1_ n2_ n3_ n4_ n5_ n6_ n7_; (try clear hb); (try clear hb2); (try clear hk); (try clear hi)))
                    go_ret
                    exact ⟨by first | rfl | (simp [errW_none, errW_some] <;> rfl) | (simp [*, errW_none, errW_some] <;> rfl), by repeat (first | (with_reducible first | exact HB.out | apply below_alloc | apply pw_below_drewN | apply below_drew1 | refine below_set ?_ GE720.out | refine below_set ?_ GE732.out | refine below_set ?_ GE737.out | refine below_set ?_ GE744.out) | exact HB.out)⟩
                  · rw [if_neg c110] at H
                    have c110b0 : decide (t756 < 0) = false := decide_eq_false c110
                    clear c110
                    by_cases c118 : t756 = t754
                    · rw [if_pos c118] at H
                      have c118b0 : (t756 == t754) = true := beq_iff_eq.mpr c118
                      have c118b1 : (t756 != t754) = false := bne_eq_false_iff_eq.mpr c118
                      clear c118
                      replace H := Option.bind_eq_some_iff.mp H
                      obtain ⟨⟨t757, t758⟩, A1190, H⟩ := H
                      replace H : ((impl_IdempotentOf.f kj68 t757 t758).bind fun bt761 => ((laws_eqMatrix.f kj68 bt761.1 bt761.2.1 t726 t727).bind fun t768 => (if t768 = true then (if bt761.2.2.1 = t730 then (laws_FnExactIdempotentOf.j2 kj68 t754 (bt761.2.2.2 != t731) t738 t755) else (laws_FnExactIdempotentOf.j2 kj68 t754 true t738 t755)) else (laws_FnExactIdempotentOf.j2 kj68 t754 true t738 t755)))) = some r := H
                      have A119 := Aside0.mk A1190
                      clear A1190
                      replace H := Option.bind_eq_some_iff.mp H
                      obtain ⟨⟨t761, t762, t765, t766⟩, A1200, H⟩ := H
                      replace H : ((laws_eqMatrix.f kj68 t761 t762 t726 t727).bind fun t768 => (if t768 = true then (if t765 = t730 then (laws_FnExactIdempotentOf.j2 kj68 t754 (t766 != t731) t738 t755) else (laws_FnExactIdempotentOf.j2 kj68 t754 true t738 t755)) else (laws_FnExactIdempotentOf.j2 kj68 t754 true t738 t755))) = some r := H
                      have A120 := Aside0.mk A1200
                      clear A1200
                      have HC121 := Aside0.mk H
                      clear H
                      have hnb122 := NB744_720.out
                      have hnc122 := NB720_744.out
                      have hnb123 := NB744_732.out
                      have hnc123 := NB732_744.out
                      have hnb124 := NB744_737.out
                      have hnc124 := NB737_744.out
                      have hcz125_0 : wc.cell? ⟨gb744, 0, none⟩ = some (.int .i64 t738) := (blk_cell BK744.out 0).trans rfl
                      have hcz125_1 : wc.cell? ⟨gb744, 1, none⟩ = some (.slice Ao36 t739.length co36) := (blk_cell BK744.out 1).trans rfl
                      have hfz125_0 := blk_frozen BK744.out 0
                      have hfz125_1 := blk_frozen BK744.out 1
                      go_upto_region 25 with (first | ((with_reducible refine gate_callee (f := 22) rfl ?_); refine goesL_ (some 79) rfl rfl Try.func22 (by kernel_rfl) rfl #[.agg #[.int .i64 t738, .slice Ao36 t739.length co36], .int .i64 1] rfl (by (try simp only [List.map_toArray, List.map_cons, List.map_nil]); first | done | rfl | (simp only [List.length_drop, List.length_take]; rfl)) ?_; (with_reducible refine (laws_markMatrix.calls kj68 t738 (fun k_ => some k_ = (.slice Ao36 t739.length co36 : Value).ownBlock) (.slice Ao36 t739.length co36) t739 1 t754 t755 w _ ?side1 ?side2 A108.out).mono ?_); (case side1 => repeat (first | (with_reducible first | exact HB.out | apply below_alloc | apply pw_below_drewN | apply below_drew1 | refine below_set ?_ GE720.out | refine below_set ?_ GE732.out | refine below_set ?_ GE737.out | refine below_set ?_ GE744.out) | exact HB.out)); (case side2 => exact Kd.R_tight rfl HO_745001.out); rintro e w126 ⟨rfl, hy0, hb, hkp⟩; refine ⟨_, rfl, ?_⟩; have n0_ := Aside0.mk (Kd.R_mono (ok' := fun k_ => some k_ ≠ (.slice Ao29 t752.length co29 : Value).ownBlock ∧ some k_ ≠ (.slice Ao36 t739.length co36 : Value).ownBlock) (Kd.R_keptB (HO_733001.out) hkp (fun k_ hk_ hs_ => (hk_.2) hs_)) (fun k_ hk_ => ⟨hk_.1.1, hk_.1.2⟩)); have n1_ := Aside0.mk (Kd.R_mono (ok' := fun k_ => some k_ ≠ (.slice Ao22 t727.length co22 : Value).ownBlock ∧ some k_ ≠ (.slice Ao36 t739.length co36 : Value).ownBlock) (Kd.R_keptB (HO_738001.out) hkp (fun k_ hk_ hs_ => (hk_.2) hs_)) (fun k_ hk_ => ⟨hk_.1.1, hk_.1.2⟩)); have n2_ := Aside0.mk (Kd.R_reok rfl hy0 (fun k_ e_ => HO_745001.out.1 k_ e_)); have n3_ := Aside0.mk (blk_kept (by (with_reducible repeat (first | refine blk_drewN ?_ _ | refine blk_drew ?_ | refine blk_alloc ?_ _)); exact BK720.out) hkp (fun hs_ => (fun e_ => (Kd.R_ne HO_745001.out BK720.out (by decide)) e_) hs_)); have n4_ := Aside0.mk (blk_kept (by (with_reducible repeat (first | refine blk_drewN ?_ _ | refine blk_drew ?_ | refine blk_alloc ?_ _)); exact BK732.out) hkp (fun hs_ => (fun e_ => (Kd.R_ne HO_745001.out BK732.out (by decide)) e_) hs_)); have n5_ := Aside0.mk (blk_kept (by (with_reducible repeat (first | refine blk_drewN ?_ _ | refine blk_drew ?_ | refine blk_alloc ?_ _)); exact BK737.out) hkp (fun hs_ => (fun e_ => (Kd.R_ne HO_745001.out BK737.out (by decide)) e_) hs_)); have n6_ := Aside0.mk (blk_kept (by (with_reducible repeat (first | refine blk_drewN ?_ _ | refine blk_drew ?_ | refine blk_alloc ?_ _)); exact BK744.out) hkp (fun hs_ => (fun e_ => (Kd.R_ne HO_745001.out BK744.out (by decide)) e_) hs_)); have n7_ := Aside0.mk (hb); clear HO_733001; clear HO_738001; clear HO_745001; clear BK720; clear BK732; clear BK737; clear BK744; clear HB; have HO_733001 := n0_; have HO_738001 := n1_; have HO_745001 := n2_; have BK720 := n3_; have BK732 := n4_; have BK737 := n5_; have BK744 := n6_; have HB := n7_; clear n0_ n1_ n2_ n3_ n4_ n5_ n6_ n7_; (try clear hb); (try clear hkp); (try clear hy0); have hcz127_0 : w126.cell? ⟨gb744, 0, none⟩ = some (.int .i64 t738) := (blk_cell BK744.out 0).trans rfl; have hcz127_1 : w126.cell? ⟨gb744, 1, none⟩ = some (.slice Ao36 t739.length co36) := (blk_cell BK744.out 1).trans rfl; have hfz127_0 := blk_frozen BK744.out 0; have hfz127_1 := blk_frozen BK744.out 1) | ((with_reducible refine gate_callee (f := 23) rfl ?_); refine goesL_ (some 82) rfl rfl Try.func23 (by kernel_rfl) rfl #[.agg #[.int .i64 t738, .slice Ao36 t755.length co36], .int .i64 1] rfl (by (try simp only [List.map_toArray, List.map_cons, List.map_nil]); first | done | (rw [show t755.length = t739.length from (Kd.R_reads' HO_745001.out).1.symm] <;> rfl) | rfl | (simp only [List.length_drop, List.length_take]; rfl)) ?_; (with_reducible refine (laws_heldMatrix.calls kj68 t738 _ _ t755 1 t756 _ ?side1 ?side2 A109.out).mono ?_); (case side1 => repeat (first | exact (Kd.R_reads' HO_745001.out).2.2 | (with_reducible refine Kd.C_alloc ?_ _) | (with_reducible refine Kd.C_drewN ?_ _) | (with_reducible refine Kd.C_drew ?_))); (case side2 => rw [show t755.length = t739.length from (Kd.R_reads' HO_745001.out).1.symm]; exact (Kd.R_reads' HO_745001.out).2.1); rintro e w128 ⟨rfl, hb⟩; refine ⟨_, rfl, ?_⟩; have n0_ := Aside0.mk (Kd.R_below (by (with_reducible repeat (first | apply Kd.R_alloc | apply Kd.R_drewN | apply Kd.R_drew)); exact HO_733001.out) hb); have n1_ := Aside0.mk (Kd.R_below (by (with_reducible repeat (first | apply Kd.R_alloc | apply Kd.R_drewN | apply Kd.R_drew)); exact HO_738001.out) hb); have n2_ := Aside0.mk (Kd.R_below (by (with_reducible repeat (first | apply Kd.R_alloc | apply Kd.R_drewN | apply Kd.R_drew)); exact HO_745001.out) hb); have n3_ := Aside0.mk (blk_below (g := gb720) (o := .cells #[.int .i64 a0_0, .slice A0_1 l0_1.length c0_1] 26 (0, 0)) (by (with_reducible repeat (first | refine blk_drewN ?_ _ | refine blk_drew ?_ | refine blk_alloc ?_ _)); exact BK720.out) hb); have n4_ := Aside0.mk (blk_below (g := gb732) (o := .cells #[.int .i64 t726, .slice Ao22 t727.length co22] 28 (0, 0)) (by (with_reducible repeat (first | refine blk_drewN ?_ _ | refine blk_drew ?_ | refine blk_alloc ?_ _)); exact BK732.out) hb); have n5_ := Aside0.mk (blk_below (g := gb737) (o := .cells #[.int .i64 t733, .slice Ao29 t752.length co29] 28 (0, 0)) (by (with_reducible repeat (first | refine blk_drewN ?_ _ | refine blk_drew ?_ | refine blk_alloc ?_ _)); exact BK737.out) hb); have n6_ := Aside0.mk (blk_below (g := gb744) (o := .cells #[.int .i64 t738, .slice Ao36 t739.length co36] 28 (0, 0)) (by (with_reducible repeat (first | refine blk_drewN ?_ _ | refine blk_drew ?_ | refine blk_alloc ?_ _)); exact BK744.out) hb); have n7_ := Aside0.mk (below_step (by repeat (first | (with_reducible first | exact HB.out | apply below_alloc | apply pw_below_drewN | apply below_drew1 | refine below_set ?_ GE720.out | refine below_set ?_ GE732.out | refine below_set ?_ GE737.out | refine below_set ?_ GE744.out) | exact HB.out)) hb); clear HO_733001; clear HO_738001; clear HO_745001; clear BK720; clear BK732; clear BK737; clear BK744; clear HB; have HO_733001 := n0_; have HO_738001 := n1_; have HO_745001 := n2_; have BK720 := n3_; have BK732 := n4_; have BK737 := n5_; have BK744 := n6_; have HB := n7_; clear n0_ n1_ n2_ n3_ n4_ n5_ n6_ n7_; (try clear hb); (try clear hb2); (try clear hk); (try clear hi); have hnb129 := NB720_732.out; have hnc129 := NB732_720.out; have hnb130 := NB720_737.out; have hnc130 := NB737_720.out; have hcz131_0 : w128.cell? ⟨gb720, 0, none⟩ = some (.int .i64 a0_0) := (blk_cell BK720.out 0).trans rfl; have hcz131_1 : w128.cell? ⟨gb720, 1, none⟩ = some (.slice A0_1 l0_1.length c0_1) := (blk_cell BK720.out 1).trans rfl; have hfz131_0 := blk_frozen BK720.out 0; have hfz131_1 := blk_frozen BK720.out 1) | ((with_reducible refine gate_callee (f := 19) rfl ?_); refine goesL_ (some 90) rfl rfl Try.func19 (by kernel_rfl) rfl #[.agg #[.int .i64 a0_0, .slice A0_1 l0_1.length c0_1]] rfl (by (try simp only [List.map_toArray, List.map_cons, List.map_nil]); first | done | rfl | (simp only [List.length_drop, List.length_take]; rfl)) ?_; (with_reducible refine (laws_toMatrix.calls kj68 a0_0 _ _ l0_1 t757 t758 _ ?side1 ?side2 A119.out).mono ?_); (case side1 => repeat (first | exact (Kd.C_below HR0_1.out HB.out) | (with_reducible refine Kd.C_alloc ?_ _) | (with_reducible refine Kd.C_drewN ?_ _) | (with_reducible refine Kd.C_drew ?_))); (case side2 => exact HC0_1.out); rintro e w132 ⟨v759, rfl, ho0, hb⟩; refine ⟨_, rfl, ?_⟩; have n0_ := Aside0.mk (Kd.R_elder' (by (with_reducible repeat (first | apply Kd.R_alloc | apply Kd.R_drewN | apply Kd.R_drew)); exact HO_733001.out) (Kd.R_base ho0) hb); have n1_ := Aside0.mk (Kd.R_elder' (by (with_reducible repeat (first | apply Kd.R_alloc | apply Kd.R_drewN | apply Kd.R_drew)); exact HO_738001.out) (Kd.R_base ho0) hb); have n2_ := Aside0.mk (Kd.R_elder' (by (with_reducible repeat (first | apply Kd.R_alloc | apply Kd.R_drewN | apply Kd.R_drew)); exact HO_745001.out) (Kd.R_base ho0) hb); have n3_ := Aside0.mk (Kd.R_lower (Kd.R_new' (Kd.R_new' (Kd.R_new' ho0 (Kd.R_lt (by (with_reducible repeat (first | apply Kd.R_alloc | apply Kd.R_drewN | apply Kd.R_drew)); exact HO_733001.out))) (Kd.R_lt (by (with_reducible repeat (first | apply Kd.R_alloc | apply Kd.R_drewN | apply Kd.R_drew)); exact HO_738001.out))) (Kd.R_lt (by (with_reducible repeat (first | apply Kd.R_alloc | apply Kd.R_drewN | apply Kd.R_drew)); exact HO_745001.out))) (below_size (by repeat (first | (with_reducible first | exact HB.out | apply below_alloc | apply pw_below_drewN | apply below_drew1 | refine below_set ?_ GE720.out | refine below_set ?_ GE732.out | refine below_set ?_ GE737.out | refine below_set ?_ GE744.out) | exact HB.out)))); have n4_ := Aside0.mk (blk_below (g := gb720) (o := .cells #[.int .i64 a0_0, .slice A0_1 l0_1.length c0_1] 26 (0, 0)) (by (with_reducible repeat (first | refine blk_drewN ?_ _ | refine blk_drew ?_ | refine blk_alloc ?_ _)); exact BK720.out) hb); have n5_ := Aside0.mk (blk_below (g := gb732) (o := .cells #[.int .i64 t726, .slice Ao22 t727.length co22] 28 (0, 0)) (by (with_reducible repeat (first | refine blk_drewN ?_ _ | refine blk_drew ?_ | refine blk_alloc ?_ _)); exact BK732.out) hb); have n6_ := Aside0.mk (blk_below (g := gb737) (o := .cells #[.int .i64 t733, .slice Ao29 t752.length co29] 28 (0, 0)) (by (with_reducible repeat (first | refine blk_drewN ?_ _ | refine blk_drew ?_ | refine blk_alloc ?_ _)); exact BK737.out) hb); have n7_ := Aside0.mk (blk_below (g := gb744) (o := .cells #[.int .i64 t738, .slice Ao36 t739.length co36] 28 (0, 0)) (by (with_reducible repeat (first | refine blk_drewN ?_ _ | refine blk_drew ?_ | refine blk_alloc ?_ _)); exact BK744.out) hb); have n8_ := Aside0.mk (below_step (by repeat (first | (with_reducible first | exact HB.out | apply below_alloc | apply pw_below_drewN | apply below_drew1 | refine below_set ?_ GE720.out | refine below_set ?_ GE732.out | refine below_set ?_ GE737.out | refine below_set ?_ GE744.out) | exact HB.out)) hb); clear HO_733001; clear HO_738001; clear HO_745001; clear BK720; clear BK732; clear BK737; clear BK744; clear HB; have HO_733001 := n0_; have HO_738001 := n1_; have HO_745001 := n2_; have HO760 := n3_; have BK720 := n4_; have BK732 := n5_; have BK737 := n6_; have BK744 := n7_; have HB := n8_; clear n0_ n1_ n2_ n3_ n4_ n5_ n6_ n7_ n8_; (try clear hb); (try clear hb2); (try clear hk); (try clear hi); (try clear ho0); obtain ⟨Ao133, co133, eo133⟩ := Kd.R_slice HO760.out; subst eo133) | ((with_reducible refine gate_callee (f := 29) rfl ?_); refine goesL_ (some 91) rfl rfl Try.func29 (by kernel_rfl) rfl #[.agg #[.int .i64 t757, .slice Ao133 t758.length co133]] rfl (by (try simp only [List.map_toArray, List.map_cons, List.map_nil]); first | done | rfl | (simp only [List.length_drop, List.length_take]; rfl)) ?_; (with_reducible refine (impl_IdempotentOf.calls kj68 t757 _ _ t758 t761 t762 t765 t766 _ ?side1 ?side2 A120.out).mono ?_); (case side1 => repeat (first | exact (Kd.R_reads' HO760.out).2.2 | (with_reducible refine Kd.C_alloc ?_ _) | (with_reducible refine Kd.C_drewN ?_ _) | (with_reducible refine Kd.C_drew ?_))); (case side2 => exact (Kd.R_reads' HO760.out).2.1); rintro e w134 ⟨v763, rfl, ho0, hb⟩; refine ⟨_, rfl, ?_⟩; have n0_ := Aside0.mk (Kd.R_elder' (by (with_reducible repeat (first | apply Kd.R_alloc | apply Kd.R_drewN | apply Kd.R_drew)); exact HO_733001.out) (Kd.R_base ho0) hb); have n1_ := Aside0.mk (Kd.R_elder' (by (with_reducible repeat (first | apply Kd.R_alloc | apply Kd.R_drewN | apply Kd.R_drew)); exact HO_738001.out) (Kd.R_base ho0) hb); have n2_ := Aside0.mk (Kd.R_elder' (by (with_reducible repeat (first | apply Kd.R_alloc | apply Kd.R_drewN | apply Kd.R_drew)); exact HO_745001.out) (Kd.R_base ho0) hb); have n3_ := Aside0.mk (Kd.R_elder' (by (with_reducible repeat (first | apply Kd.R_alloc | apply Kd.R_drewN | apply Kd.R_drew)); exact HO760.out) (Kd.R_base ho0) hb); have n4_ := Aside0.mk (Kd.R_lower (Kd.R_new' (Kd.R_new' (Kd.R_new' (Kd.R_new' ho0 (Kd.R_lt (by (with_reducible repeat (first | apply Kd.R_alloc | apply Kd.R_drewN | apply Kd.R_drew)); exact HO_733001.out))) (Kd.R_lt (by (with_reducible repeat (first | apply Kd.R_alloc | apply Kd.R_drewN | apply Kd.R_drew)); exact HO_738001.out))) (Kd.R_lt (by (with_reducible repeat (first | apply Kd.R_alloc | apply Kd.R_drewN | apply Kd.R_drew)); exact HO_745001.out))) (Kd.R_lt (by (with_reducible repeat (first | apply Kd.R_alloc | apply Kd.R_drewN | apply Kd.R_drew)); exact HO760.out))) (below_size (by repeat (first | (with_reducible first | exact HB.out | apply below_alloc | apply pw_below_drewN | apply below_drew1 | refine below_set ?_ GE720.out | refine below_set ?_ GE732.out | refine below_set ?_ GE737.out | refine below_set ?_ GE744.out) | exact HB.out)))); have n5_ := Aside0.mk (blk_below (g := gb720) (o := .cells #[.int .i64 a0_0, .slice A0_1 l0_1.length c0_1] 26 (0, 0)) (by (with_reducible repeat (first | refine blk_drewN ?_ _ | refine blk_drew ?_ | refine blk_alloc ?_ _)); exact BK720.out) hb); have n6_ := Aside0.mk (blk_below (g := gb732) (o := .cells #[.int .i64 t726, .slice Ao22 t727.length co22] 28 (0, 0)) (by (with_reducible repeat (first | refine blk_drewN ?_ _ | refine blk_drew ?_ | refine blk_alloc ?_ _)); exact BK732.out) hb); have n7_ := Aside0.mk (blk_below (g := gb737) (o := .cells #[.int .i64 t733, .slice Ao29 t752.length co29] 28 (0, 0)) (by (with_reducible repeat (first | refine blk_drewN ?_ _ | refine blk_drew ?_ | refine blk_alloc ?_ _)); exact BK737.out) hb); have n8_ := Aside0.mk (blk_below (g := gb744) (o := .cells #[.int .i64 t738, .slice Ao36 t739.length co36] 28 (0, 0)) (by (with_reducible repeat (first | refine blk_drewN ?_ _ | refine blk_drew ?_ | refine blk_alloc ?_ _)); exact BK744.out) hb); have n9_ := Aside0.mk (below_step (by repeat (first | (with_reducible first | exact HB.out | apply below_alloc | apply pw_below_drewN | apply below_drew1 | refine below_set ?_ GE720.out | refine below_set ?_ GE732.out | refine below_set ?_ GE737.out | refine below_set ?_ GE744.out) | exact HB.out)) hb); clear HO_733001; clear HO_738001; clear HO_745001; clear HO760; clear BK720; clear BK732; clear BK737; clear BK744; clear HB; have HO_733001 := n0_; have HO_738001 := n1_; have HO_745001 := n2_; have HO760 := n3_; have HO764 := n4_; have BK720 := n5_; have BK732 := n6_; have BK737 := n7_; have BK744 := n8_; have HB := n9_; clear n0_ n1_ n2_ n3_ n4_ n5_ n6_ n7_ n8_ n9_; (try clear hb); (try clear hb2); (try clear hk); (try clear hi); (try clear ho0)) | ((with_reducible refine gate_dst (N := 14) rfl ?_); refine box_event ?hg (N := 14) ?hd (cs := #[.int .i64 0, .slice none 0 0]) (t := 28) ?hr ?_; (case hd => rfl); (case hg => rfl); (case hr => first | (go_simp; done) | (go_simp; rfl)); intro gb767 hg w135 hbox hb; have n0_ := Aside0.mk (Kd.R_below (by (with_reducible repeat (first | apply Kd.R_alloc | apply Kd.R_drewN | apply Kd.R_drew)); exact HO_733001.out) hb); have n1_ := Aside0.mk (Kd.R_below (by (with_reducible repeat (first | apply Kd.R_alloc | apply Kd.R_drewN | apply Kd.R_drew)); exact HO_738001.out) hb); have n2_ := Aside0.mk (Kd.R_below (by (with_reducible repeat (first | apply Kd.R_alloc | apply Kd.R_drewN | apply Kd.R_drew)); exact HO_745001.out) hb); have n3_ := Aside0.mk (Kd.R_below (by (with_reducible repeat (first | apply Kd.R_alloc | apply Kd.R_drewN | apply Kd.R_drew)); exact HO760.out) hb); have n4_ := Aside0.mk (Kd.R_below (by (with_reducible repeat (first | apply Kd.R_alloc | apply Kd.R_drewN | apply Kd.R_drew)); exact HO764.out) hb); have n5_ := Aside0.mk (blk_below (g := gb720) (o := .cells #[.int .i64 a0_0, .slice A0_1 l0_1.length c0_1] 26 (0, 0)) (by (with_reducible repeat (first | refine blk_drewN ?_ _ | refine blk_drew ?_ | refine blk_alloc ?_ _)); exact BK720.out) hb); have n6_ := Aside0.mk (blk_below (g := gb732) (o := .cells #[.int .i64 t726, .slice Ao22 t727.length co22] 28 (0, 0)) (by (with_reducible repeat (first | refine blk_drewN ?_ _ | refine blk_drew ?_ | refine blk_alloc ?_ _)); exact BK732.out) hb); have n7_ := Aside0.mk (blk_below (g := gb737) (o := .cells #[.int .i64 t733, .slice Ao29 t752.length co29] 28 (0, 0)) (by (with_reducible repeat (first | refine blk_drewN ?_ _ | refine blk_drew ?_ | refine blk_alloc ?_ _)); exact BK737.out) hb); have n8_ := Aside0.mk (blk_below (g := gb744) (o := .cells #[.int .i64 t738, .slice Ao36 t739.length co36] 28 (0, 0)) (by (with_reducible repeat (first | refine blk_drewN ?_ _ | refine blk_drew ?_ | refine blk_alloc ?_ _)); exact BK744.out) hb); have n9_ := Aside0.mk (below_step (by repeat (first | (with_reducible first | exact HB.out | apply below_alloc | apply pw_below_drewN | apply below_drew1 | refine below_set ?_ GE720.out | refine below_set ?_ GE732.out | refine below_set ?_ GE737.out | refine below_set ?_ GE744.out) | exact HB.out)) hb); have n10_ := Aside0.mk (hbox); have n11_ := Aside0.mk ((by rw [hg]; exact (below_size (by repeat (first | (with_reducible first | exact HB.out | apply below_alloc | apply pw_below_drewN | apply below_drew1 | refine below_set ?_ GE720.out | refine below_set ?_ GE732.out | refine below_set ?_ GE737.out | refine below_set ?_ GE744.out) | exact HB.out))) : w.heap.size ≤ gb767)); have n12_ := Aside0.mk ((by rw [hg]; exact (below_size (by repeat (first | (with_reducible first | exact HB.out | apply below_alloc | apply pw_below_drewN | apply below_drew1 | refine below_set ?_ GE720.out | refine below_set ?_ GE732.out | refine below_set ?_ GE737.out | refine below_set ?_ GE744.out) | exact HB.out))) : w.heap.size ≤ gb767)); have n13_ := Aside0.mk ((by rw [hg]; exact Nat.ne_of_lt (blk_lt (g := gb720) (o := .cells #[.int .i64 a0_0, .slice A0_1 l0_1.length c0_1] 26 (0, 0)) (by (with_reducible repeat (first | refine blk_drewN ?_ _ | refine blk_drew ?_ | refine blk_alloc ?_ _)); exact BK720.out)) : gb720 ≠ gb767)); have n14_ := Aside0.mk ((by rw [hg]; exact Nat.ne_of_gt (blk_lt (g := gb720) (o := .cells #[.int .i64 a0_0, .slice A0_1 l0_1.length c0_1] 26 (0, 0)) (by (with_reducible repeat (first | refine blk_drewN ?_ _ | refine blk_drew ?_ | refine blk_alloc ?_ _)); exact BK720.out)) : gb767 ≠ gb720)); have n15_ := Aside0.mk ((by rw [hg]; exact Nat.ne_of_lt (blk_lt (g := gb732) (o := .cells #[.int .i64 t726, .slice Ao22 t727.length co22] 28 (0, 0)) (by (with_reducible repeat (first | refine blk_drewN ?_ _ | refine blk_drew ?_ | refine blk_alloc ?_ _)); exact BK732.out)) : gb732 ≠ gb767)); have n16_ := Aside0.mk ((by rw [hg]; exact Nat.ne_of_gt (blk_lt (g := gb732) (o := .cells #[.int .i64 t726, .slice Ao22 t727.length co22] 28 (0, 0)) (by (with_reducible repeat (first | refine blk_drewN ?_ _ | refine blk_drew ?_ | refine blk_alloc ?_ _)); exact BK732.out)) : gb767 ≠ gb732)); have n17_ := Aside0.mk ((by rw [hg]; exact Nat.ne_of_lt (blk_lt (g := gb737) (o := .cells #[.int .i64 t733, .slice Ao29 t752.length co29] 28 (0, 0)) (by (with_reducible repeat (first | refine blk_drewN ?_ _ | refine blk_drew ?_ | refine blk_alloc ?_ _)); exact BK737.out)) : gb737 ≠ gb767)); have n18_ := Aside0.mk ((by rw [hg]; exact Nat.ne_of_gt (blk_lt (g := gb737) (o := .cells #[.int .i64 t733, .slice Ao29 t752.length co29] 28 (0, 0)) (by (with_reducible repeat (first | refine blk_drewN ?_ _ | refine blk_drew ?_ | refine blk_alloc ?_ _)); exact BK737.out)) : gb767 ≠ gb737)); have n19_ := Aside0.mk ((by rw [hg]; exact Nat.ne_of_lt (blk_lt (g := gb744) (o := .cells #[.int .i64 t738, .slice Ao36 t739.length co36] 28 (0, 0)) (by (with_reducible repeat (first | refine blk_drewN ?_ _ | refine blk_drew ?_ | refine blk_alloc ?_ _)); exact BK744.out)) : gb744 ≠ gb767)); have n20_ := Aside0.mk ((by rw [hg]; exact Nat.ne_of_gt (blk_lt (g := gb744) (o := .cells #[.int .i64 t738, .slice Ao36 t739.length co36] 28 (0, 0)) (by (with_reducible repeat (first | refine blk_drewN ?_ _ | refine blk_drew ?_ | refine blk_alloc ?_ _)); exact BK744.out)) : gb767 ≠ gb744)); clear HO_733001; clear HO_738001; clear HO_745001; clear HO760; clear HO764; clear BK720; clear BK732; clear BK737; clear BK744; clear HB; have HO_733001 := n0_; have HO_738001 := n1_; have HO_745001 := n2_; have HO760 := n3_; have HO764 := n4_; have BK720 := n5_; have BK732 := n6_; have BK737 := n7_; have BK744 := n8_; have HB := n9_; have BK767 := n10_; have GW767 := n11_; have GE767 := n12_; have NB720_767 := n13_; have NB767_720 := n14_; have NB732_767 := n15_; have NB767_732 := n16_; have NB737_767 := n17_; have NB767_737 := n18_; have NB744_767 := n19_; have NB767_744 := n20_; clear n0_ n1_ n2_ n3_ n4_ n5_ n6_ n7_ n8_ n9_ n10_ n11_ n12_ n13_ n14_ n15_ n16_ n17_ n18_ n19_ n20_; clear hb hbox hg; have hnb136 := NB767_720.out; have hnc136 := NB720_767.out; have hnb137 := NB767_732.out; have hnc137 := NB732_767.out; have hnb138 := NB767_737.out; have hnc138 := NB737_767.out; have hnb139 := NB767_744.out; have hnc139 := NB744_767.out; have hcz140_0 : w135.cell? ⟨gb767, 0, none⟩ = some (.int .i64 0) := (blk_cell BK767.out 0).trans rfl; have hcz140_1 : w135.cell? ⟨gb767, 1, none⟩ = some (.slice none 0 0) := (blk_cell BK767.out 1).trans rfl; have hfz140_0 := blk_frozen BK767.out 0; have hfz140_1 := blk_frozen BK767.out 1; obtain ⟨Ao141, co141, eo141⟩ := Kd.R_slice HO764.out; subst eo141))
                      (try simp only [Act.put, List.setIfInBounds_toArray, List.set_cons_zero, List.set_cons_succ])
                      go_cut [108] (fun v108 wc => ∃ (kq : Nat) (x108_120 : Bool), v108 = .bool x108_120 ∧ Aside0 (laws_FnExactIdempotentOf.j2 kq t754 x108_120 t738 t755 = some r) ∧ Aside0 (kq ≤ kj68) ∧ Aside0 (Kd.R (Kd.int .i64) 3 wc w.heap.size (fun k_ => some k_ ≠ ((.slice Ao29 t752.length co29) : Value).ownBlock ∧ some k_ ≠ ((.slice Ao36 t739.length co36) : Value).ownBlock ∧ some k_ ≠ ((.slice Ao141 t762.length co141) : Value).ownBlock) (.slice Ao22 t727.length co22) t727) ∧ Aside0 (Kd.R (Kd.int .i64) 3 wc w.heap.size (fun k_ => some k_ ≠ ((.slice Ao22 t727.length co22) : Value).ownBlock ∧ some k_ ≠ ((.slice Ao36 t739.length co36) : Value).ownBlock ∧ some k_ ≠ ((.slice Ao141 t762.length co141) : Value).ownBlock) (.slice Ao29 t752.length co29) t752) ∧ Aside0 (Kd.R (Kd.int .i64) 3 wc w.heap.size (fun k_ => some k_ ≠ ((.slice Ao22 t727.length co22) : Value).ownBlock ∧ some k_ ≠ ((.slice Ao29 t752.length co29) : Value).ownBlock ∧ some k_ ≠ ((.slice Ao141 t762.length co141) : Value).ownBlock) (.slice Ao36 t739.length co36) t755) ∧ Aside0 (Kd.R (Kd.int .i64) 3 wc w.heap.size (fun k_ => some k_ ≠ ((.slice Ao22 t727.length co22) : Value).ownBlock ∧ some k_ ≠ ((.slice Ao29 t752.length co29) : Value).ownBlock ∧ some k_ ≠ ((.slice Ao36 t739.length co36) : Value).ownBlock) (.slice Ao141 t762.length co141) t762) ∧ Aside0 (wc.heap[gb720]? = some (.cells #[.int .i64 a0_0, (.slice A0_1 l0_1.length c0_1)] 26 (0, 0))) ∧ Aside0 (wc.heap[gb732]? = some (.cells #[.int .i64 t726, (.slice Ao22 t727.length co22)] 28 (0, 0))) ∧ Aside0 (wc.heap[gb737]? = some (.cells #[.int .i64 t733, (.slice Ao29 t752.length co29)] 28 (0, 0))) ∧ Aside0 (wc.heap[gb744]? = some (.cells #[.int .i64 t738, (.slice Ao36 t739.length co36)] 28 (0, 0))) ∧ Aside0 (wc.heap[gb767]? = some (.cells #[.int .i64 t761, (.slice Ao141 t762.length co141)] 28 (0, 0))) ∧ Aside0 (Below w.heap.size w wc))
                      case first =>
                        have H := HC121.out
                        clear HC121
                        replace H := Option.bind_eq_some_iff.mp H
                        obtain ⟨t768, A1420, H⟩ := H
                        replace H : (if t768 = true then (if t765 = t730 then (laws_FnExactIdempotentOf.j2 kj68 t754 (t766 != t731) t738 t755) else (laws_FnExactIdempotentOf.j2 kj68 t754 true t738 t755)) else (laws_FnExactIdempotentOf.j2 kj68 t754 true t738 t755)) = some r := H
                        have A142 := Aside0.mk A1420
                        clear A1420
                        by_cases c143 : t768 = true
                        · subst c143
                          have H1 : (if t765 = t730 then (laws_FnExactIdempotentOf.j2 kj68 t754 (t766 != t731) t738 t755) else (laws_FnExactIdempotentOf.j2 kj68 t754 true t738 t755)) = some r := by rw [if_pos rfl] at H; exact H
                          clear H
                          have H := H1
                          clear H1
                          by_cases c144 : t765 = t730
                          · rw [if_pos c144] at H
                            have c144b0 : (t765 == t730) = true := beq_iff_eq.mpr c144
                            have c144b1 : (t765 != t730) = false := bne_eq_false_iff_eq.mpr c144
                            clear c144
                            (first | rw [c144b0] | (simp only [i64_w, i32_w]; rw [c144b0]) | skip)
                            have H' := Aside0.mk H
                            clear H
                            have hnb145 := NB767_720.out
                            have hnc145 := NB720_767.out
                            have hnb146 := NB767_732.out
                            have hnc146 := NB732_767.out
                            have hnb147 := NB767_737.out
                            have hnc147 := NB737_767.out
                            have hnb148 := NB767_744.out
                            have hnc148 := NB744_767.out
                            have hcz149_0 : w135.cell? ⟨gb767, 0, none⟩ = some (.int .i64 0) := (blk_cell BK767.out 0).trans rfl
                            have hcz149_1 : w135.cell? ⟨gb767, 1, none⟩ = some (.slice none 0 0) := (blk_cell BK767.out 1).trans rfl
                            have hfz149_0 := blk_frozen BK767.out 0
                            have hfz149_1 := blk_frozen BK767.out 1
                            have hnb150 := NB732_720.out
                            have hnc150 := NB720_732.out
                            have hnb151 := NB732_737.out
                            have hnc151 := NB737_732.out
                            have hnb152 := NB732_744.out
                            have hnc152 := NB744_732.out
                            have hcz153_0 : w135.cell? ⟨gb732, 0, none⟩ = some (.int .i64 t726) := (blk_cell BK732.out 0).trans rfl
                            have hcz153_1 : w135.cell? ⟨gb732, 1, none⟩ = some (.slice Ao22 t727.length co22) := (blk_cell BK732.out 1).trans rfl
                            have hfz153_0 := blk_frozen BK732.out 0
                            have hfz153_1 := blk_frozen BK732.out 1
                            go_wp2_with (first | ((with_reducible refine gate_callee (f := 21) rfl ?_); refine goesL_ (some 97) rfl rfl Try.func21 (by kernel_rfl) rfl #[.agg #[.int .i64 t761, .slice Ao141 t762.length co141], .agg #[.int .i64 t726, .slice Ao22 t727.length co22]] rfl (by (try simp only [List.map_toArray, List.map_cons, List.map_nil]); first | done | rfl | (simp only [List.length_drop, List.length_take]; rfl)) ?_; (with_reducible refine (laws_eqMatrix.calls kj68 t761 _ _ t762 t726 _ _ t727 true _ ?side1 ?side2 ?side3 ?side4 A142.out).mono ?_); (case side1 => refine (Kd.R_reads' (e := 3) (base := w.heap.size) (ok := fun k_ => ((((True ∧ some k_ ≠ (.slice Ao22 t727.length co22 : Value).ownBlock) ∧ some k_ ≠ (.slice Ao29 t752.length co29 : Value).ownBlock) ∧ some k_ ≠ (.slice Ao36 t739.length co36 : Value).ownBlock) ∧ some k_ ≠ (.slice Ao133 t758.length co133 : Value).ownBlock)) (n := t762.length) (c := co141) ?_).2.2; exact (by (with_reducible repeat (first | apply Kd.R_alloc | apply Kd.R_drewN | apply Kd.R_drew)); exact (Kd.R_mono (Kd.R_far (p := ⟨gb767, 1, none⟩) (Kd.R_far (p := ⟨gb767, 0, none⟩) (Kd.R_types HO764.out BK767.out (by decide)) (fun _ hk => hk.2) (.int .i64 t761)) (fun _ hk => hk.2) (.slice Ao141 t762.length co141)) (fun _ h_ => h_.1)))); (case side2 => exact (Kd.R_reads' HO764.out).2.1); (case side3 => refine (Kd.R_reads' (e := 3) (base := w.heap.size) (ok := fun k_ => (((some k_ ≠ (.slice Ao29 t752.length co29 : Value).ownBlock ∧ some k_ ≠ (.slice Ao36 t739.length co36 : Value).ownBlock) ∧ some k_ ≠ (.slice Ao133 t758.length co133 : Value).ownBlock) ∧ some k_ ≠ (.slice Ao141 t762.length co141 : Value).ownBlock)) (n := t727.length) (c := co22) ?_).2.2; exact (by (with_reducible repeat (first | apply Kd.R_alloc | apply Kd.R_drewN | apply Kd.R_drew)); exact (Kd.R_mono (Kd.R_far (p := ⟨gb767, 1, none⟩) (Kd.R_far (p := ⟨gb767, 0, none⟩) (Kd.R_types HO_733001.out BK767.out (by decide)) (fun _ hk => hk.2) (.int .i64 t761)) (fun _ hk => hk.2) (.slice Ao141 t762.length co141)) (fun _ h_ => h_.1)))); (case side4 => exact (Kd.R_reads' HO_733001.out).2.1); rintro e w154 ⟨rfl, hb⟩; refine ⟨_, rfl, ?_⟩; have n0_ := Aside0.mk (Kd.R_below (by (with_reducible repeat (first | apply Kd.R_alloc | apply Kd.R_drewN | apply Kd.R_drew)); exact (Kd.R_mono (Kd.R_far (p := ⟨gb767, 1, none⟩) (Kd.R_far (p := ⟨gb767, 0, none⟩) (Kd.R_types HO_733001.out BK767.out (by decide)) (fun _ hk => hk.2) (.int .i64 t761)) (fun _ hk => hk.2) (.slice Ao141 t762.length co141)) (fun _ h_ => h_.1))) hb); have n1_ := Aside0.mk (Kd.R_below (by (with_reducible repeat (first | apply Kd.R_alloc | apply Kd.R_drewN | apply Kd.R_drew)); exact (Kd.R_mono (Kd.R_far (p := ⟨gb767, 1, none⟩) (Kd.R_far (p := ⟨gb767, 0, none⟩) (Kd.R_types HO_738001.out BK767.out (by decide)) (fun _ hk => hk.2) (.int .i64 t761)) (fun _ hk => hk.2) (.slice Ao141 t762.length co141)) (fun _ h_ => h_.1))) hb); have n2_ := Aside0.mk (Kd.R_below (by (with_reducible repeat (first | apply Kd.R_alloc | apply Kd.R_drewN | apply Kd.R_drew)); exact (Kd.R_mono (Kd.R_far (p := ⟨gb767, 1, none⟩) (Kd.R_far (p := ⟨gb767, 0, none⟩) (Kd.R_types HO_745001.out BK767.out (by decide)) (fun _ hk => hk.2) (.int .i64 t761)) (fun _ hk => hk.2) (.slice Ao141 t762.length co141)) (fun _ h_ => h_.1))) hb); have n3_ := Aside0.mk (Kd.R_below (by (with_reducible repeat (first | apply Kd.R_alloc | apply Kd.R_drewN | apply Kd.R_drew)); exact (Kd.R_mono (Kd.R_far (p := ⟨gb767, 1, none⟩) (Kd.R_far (p := ⟨gb767, 0, none⟩) (Kd.R_types HO760.out BK767.out (by decide)) (fun _ hk => hk.2) (.int .i64 t761)) (fun _ hk => hk.2) (.slice Ao141 t762.length co141)) (fun _ h_ => h_.1))) hb); have n4_ := Aside0.mk (Kd.R_below (by (with_reducible repeat (first | apply Kd.R_alloc | apply Kd.R_drewN | apply Kd.R_drew)); exact (Kd.R_mono (Kd.R_far (p := ⟨gb767, 1, none⟩) (Kd.R_far (p := ⟨gb767, 0, none⟩) (Kd.R_types HO764.out BK767.out (by decide)) (fun _ hk => hk.2) (.int .i64 t761)) (fun _ hk => hk.2) (.slice Ao141 t762.length co141)) (fun _ h_ => h_.1))) hb); have n5_ := Aside0.mk (blk_below (g := gb720) (o := .cells #[.int .i64 a0_0, .slice A0_1 l0_1.length c0_1] 26 (0, 0)) (by (with_reducible repeat (first | refine blk_drewN ?_ _ | refine blk_drew ?_ | refine blk_alloc ?_ _)); refine blk_far ?_ NB720_767.out _; (with_reducible repeat (first | refine blk_drewN ?_ _ | refine blk_drew ?_ | refine blk_alloc ?_ _)); refine blk_far ?_ NB720_767.out _; (with_reducible repeat (first | refine blk_drewN ?_ _ | refine blk_drew ?_ | refine blk_alloc ?_ _)); exact BK720.out) hb); have n6_ := Aside0.mk (blk_below (g := gb732) (o := .cells #[.int .i64 t726, .slice Ao22 t727.length co22] 28 (0, 0)) (by (with_reducible repeat (first | refine blk_drewN ?_ _ | refine blk_drew ?_ | refine blk_alloc ?_ _)); refine blk_far ?_ NB732_767.out _; (with_reducible repeat (first | refine blk_drewN ?_ _ | refine blk_drew ?_ | refine blk_alloc ?_ _)); refine blk_far ?_ NB732_767.out _; (with_reducible repeat (first | refine blk_drewN ?_ _ | refine blk_drew ?_ | refine blk_alloc ?_ _)); exact BK732.out) hb); have n7_ := Aside0.mk (blk_below (g := gb737) (o := .cells #[.int .i64 t733, .slice Ao29 t752.length co29] 28 (0, 0)) (by (with_reducible repeat (first | refine blk_drewN ?_ _ | refine blk_drew ?_ | refine blk_alloc ?_ _)); refine blk_far ?_ NB737_767.out _; (with_reducible repeat (first | refine blk_drewN ?_ _ | refine blk_drew ?_ | refine blk_alloc ?_ _)); refine blk_far ?_ NB737_767.out _; (with_reducible repeat (first | refine blk_drewN ?_ _ | refine blk_drew ?_ | refine blk_alloc ?_ _)); exact BK737.out) hb); have n8_ := Aside0.mk (blk_below (g := gb744) (o := .cells #[.int .i64 t738, .slice Ao36 t739.length co36] 28 (0, 0)) (by (with_reducible repeat (first | refine blk_drewN ?_ _ | refine blk_drew ?_ | refine blk_alloc ?_ _)); refine blk_far ?_ NB744_767.out _; (with_reducible repeat (first | refine blk_drewN ?_ _ | refine blk_drew ?_ | refine blk_alloc ?_ _)); refine blk_far ?_ NB744_767.out _; (with_reducible repeat (first | refine blk_drewN ?_ _ | refine blk_drew ?_ | refine blk_alloc ?_ _)); exact BK744.out) hb); have n9_ := Aside0.mk (blk_below (g := gb767) (o := .cells #[.int .i64 t761, .slice Ao141 t762.length co141] 28 (0, 0)) (by (with_reducible repeat (first | refine blk_drewN ?_ _ | refine blk_drew ?_ | refine blk_alloc ?_ _)); refine blk_put (cs := #[.int .i64 t761, .slice none 0 0]) ?_ 1 _ rfl; (with_reducible repeat (first | refine blk_drewN ?_ _ | refine blk_drew ?_ | refine blk_alloc ?_ _)); refine blk_put (cs := #[.int .i64 0, .slice none 0 0]) ?_ 0 _ rfl; (with_reducible repeat (first | refine blk_drewN ?_ _ | refine blk_drew ?_ | refine blk_alloc ?_ _)); exact BK767.out) hb); have n10_ := Aside0.mk (below_step (by repeat (first | (with_reducible first | exact HB.out | apply below_alloc | apply pw_below_drewN | apply below_drew1 | refine below_set ?_ GE720.out | refine below_set ?_ GE732.out | refine below_set ?_ GE737.out | refine below_set ?_ GE744.out | refine below_set ?_ GE767.out) | exact HB.out)) hb); clear HO_733001; clear HO_738001; clear HO_745001; clear HO760; clear HO764; clear BK720; clear BK732; clear BK737; clear BK744; clear BK767; clear HB; have HO_733001 := n0_; have HO_738001 := n1_; have HO_745001 := n2_; have HO760 := n3_; have HO764 := n4_; have BK720 := n5_; have BK732 := n6_; have BK737 := n7_; have BK744 := n8_; have BK767 := n9_; have HB := n10_; clear n0_ n1_ n2_ n3_ n4_ n5_ n6_ n7_ n8_ n9_ n10_; (try clear hb); (try clear hb2); (try clear hk); (try clear hi)))
                            go_meet
                            case rel => exact ⟨_, ((t766 != t731)), (by first | rfl | (simp; done) | (simp [*]; done)), H', ⟨by have := HJ10.out; have := HJ68.out; first | omega | exact Nat.le_refl _⟩, ⟨by (try simp only [hl738001_68]); (with_reducible repeat (first | apply Kd.R_alloc | apply Kd.R_drewN | apply Kd.R_drew)); exact Kd.R_mono HO_733001.out (fun _ hk => ⟨hk.1.1.1, ⟨hk.1.1.2, hk.2⟩⟩)⟩, ⟨by (try simp only [hl738001_68]); (with_reducible repeat (first | apply Kd.R_alloc | apply Kd.R_drewN | apply Kd.R_drew)); exact Kd.R_mono HO_738001.out (fun _ hk => ⟨hk.1.1.1, ⟨hk.1.1.2, hk.2⟩⟩)⟩, ⟨by (try simp only [hl738001_68]); (with_reducible repeat (first | apply Kd.R_alloc | apply Kd.R_drewN | apply Kd.R_drew)); exact Kd.R_mono HO_745001.out (fun _ hk => ⟨hk.1.1.1, ⟨hk.1.1.2, hk.2⟩⟩)⟩, ⟨by (try simp only [hl738001_68]); (with_reducible repeat (first | apply Kd.R_alloc | apply Kd.R_drewN | apply Kd.R_drew)); exact Kd.R_mono HO764.out (fun _ hk => ⟨hk.1.1.1.2, ⟨hk.1.1.2, hk.1.2⟩⟩)⟩, ⟨by (try simp only [hl738001_68]); (with_reducible repeat (first | refine blk_drewN ?_ _ | refine blk_drew ?_ | refine blk_alloc ?_ _)); exact BK720.out⟩, ⟨by (try simp only [hl738001_68]); (with_reducible repeat (first | refine blk_drewN ?_ _ | refine blk_drew ?_ | refine blk_alloc ?_ _)); exact BK732.out⟩, ⟨by (try simp only [hl738001_68]); (with_reducible repeat (first | refine blk_drewN ?_ _ | refine blk_drew ?_ | refine blk_alloc ?_ _)); exact BK737.out⟩, ⟨by (try simp only [hl738001_68]); (with_reducible repeat (first | refine blk_drewN ?_ _ | refine blk_drew ?_ | refine blk_alloc ?_ _)); exact BK744.out⟩, ⟨by (try simp only [hl738001_68]); (with_reducible repeat (first | refine blk_drewN ?_ _ | refine blk_drew ?_ | refine blk_alloc ?_ _)); exact BK767.out⟩, ⟨by repeat (first | (with_reducible first | exact HB.out | apply below_alloc | apply pw_below_drewN | apply below_drew1 | refine below_set ?_ GE720.out | refine below_set ?_ GE732.out | refine below_set ?_ GE737.out | refine below_set ?_ GE744.out | refine below_set ?_ GE767.out) | exact HB.out)⟩⟩
                          · rw [if_neg c144] at H
                            have c144b0 : (t765 == t730) = false := beq_eq_false_iff_ne.mpr c144
                            have c144b1 : (t765 != t730) = true := bne_iff_ne.mpr c144
                            (first | rw [c144b0] | (simp only [i64_w, i32_w]; rw [c144b0]) | skip)
                            have H' := Aside0.mk H
                            clear H
                            have hnb155 := NB767_720.out
                            have hnc155 := NB720_767.out
                            have hnb156 := NB767_732.out
                            have hnc156 := NB732_767.out
                            have hnb157 := NB767_737.out
                            have hnc157 := NB737_767.out
                            have hnb158 := NB767_744.out
                            have hnc158 := NB744_767.out
                            have hcz159_0 : w135.cell? ⟨gb767, 0, none⟩ = some (.int .i64 0) := (blk_cell BK767.out 0).trans rfl
                            have hcz159_1 : w135.cell? ⟨gb767, 1, none⟩ = some (.slice none 0 0) := (blk_cell BK767.out 1).trans rfl
                            have hfz159_0 := blk_frozen BK767.out 0
                            have hfz159_1 := blk_frozen BK767.out 1
                            have hnb160 := NB732_720.out
                            have hnc160 := NB720_732.out
                            have hnb161 := NB732_737.out
                            have hnc161 := NB737_732.out
                            have hnb162 := NB732_744.out
                            have hnc162 := NB744_732.out
                            have hcz163_0 : w135.cell? ⟨gb732, 0, none⟩ = some (.int .i64 t726) := (blk_cell BK732.out 0).trans rfl
                            have hcz163_1 : w135.cell? ⟨gb732, 1, none⟩ = some (.slice Ao22 t727.length co22) := (blk_cell BK732.out 1).trans rfl
                            have hfz163_0 := blk_frozen BK732.out 0
                            have hfz163_1 := blk_frozen BK732.out 1
                            go_wp2_with (first | ((with_reducible refine gate_callee (f := 21) rfl ?_); refine goesL_ (some 97) rfl rfl Try.func21 (by kernel_rfl) rfl #[.agg #[.int .i64 t761, .slice Ao141 t762.length co141], .agg #[.int .i64 t726, .slice Ao22 t727.length co22]] rfl (by (try simp only [List.map_toArray, List.map_cons, List.map_nil]); first | done | rfl | (simp only [List.length_drop, List.length_take]; rfl)) ?_; (with_reducible refine (laws_eqMatrix.calls kj68 t761 _ _ t762 t726 _ _ t727 true _ ?side1 ?side2 ?side3 ?side4 A142.out).mono ?_); (case side1 => refine (Kd.R_reads' (e := 3) (base := w.heap.size) (ok := fun k_ => ((((True ∧ some k_ ≠ (.slice Ao22 t727.length co22 : Value).ownBlock) ∧ some k_ ≠ (.slice Ao29 t752.length co29 : Value).ownBlock) ∧ some k_ ≠ (.slice Ao36 t739.length co36 : Value).ownBlock) ∧ some k_ ≠ (.slice Ao133 t758.length co133 : Value).ownBlock)) (n := t762.length) (c := co141) ?_).2.2; exact (by (with_reducible repeat (first | apply Kd.R_alloc | apply Kd.R_drewN | apply Kd.R_drew)); exact (Kd.R_mono (Kd.R_far (p := ⟨gb767, 1, none⟩) (Kd.R_far (p := ⟨gb767, 0, none⟩) (Kd.R_types HO764.out BK767.out (by decide)) (fun _ hk => hk.2) (.int .i64 t761)) (fun _ hk => hk.2) (.slice Ao141 t762.length co141)) (fun _ h_ => h_.1)))); (case side2 => exact (Kd.R_reads' HO764.out).2.1); (case side3 => refine (Kd.R_reads' (e := 3) (base := w.heap.size) (ok := fun k_ => (((some k_ ≠ (.slice Ao29 t752.length co29 : Value).ownBlock ∧ some k_ ≠ (.slice Ao36 t739.length co36 : Value).ownBlock) ∧ some k_ ≠ (.slice Ao133 t758.length co133 : Value).ownBlock) ∧ some k_ ≠ (.slice Ao141 t762.length co141 : Value).ownBlock)) (n := t727.length) (c := co22) ?_).2.2; exact (by (with_reducible repeat (first | apply Kd.R_alloc | apply Kd.R_drewN | apply Kd.R_drew)); exact (Kd.R_mono (Kd.R_far (p := ⟨gb767, 1, none⟩) (Kd.R_far (p := ⟨gb767, 0, none⟩) (Kd.R_types HO_733001.out BK767.out (by decide)) (fun _ hk => hk.2) (.int .i64 t761)) (fun _ hk => hk.2) (.slice Ao141 t762.length co141)) (fun _ h_ => h_.1)))); (case side4 => exact (Kd.R_reads' HO_733001.out).2.1); rintro e w164 ⟨rfl, hb⟩; refine ⟨_, rfl, ?_⟩; have n0_ := Aside0.mk (Kd.R_below (by (with_reducible repeat (first | apply Kd.R_alloc | apply Kd.R_drewN | apply Kd.R_drew)); exact (Kd.R_mono (Kd.R_far (p := ⟨gb767, 1, none⟩) (Kd.R_far (p := ⟨gb767, 0, none⟩) (Kd.R_types HO_733001.out BK767.out (by decide)) (fun _ hk => hk.2) (.int .i64 t761)) (fun _ hk => hk.2) (.slice Ao141 t762.length co141)) (fun _ h_ => h_.1))) hb); have n1_ := Aside0.mk (Kd.R_below (by (with_reducible repeat (first | apply Kd.R_alloc | apply Kd.R_drewN | apply Kd.R_drew)); exact (Kd.R_mono (Kd.R_far (p := ⟨gb767, 1, none⟩) (Kd.R_far (p := ⟨gb767, 0, none⟩) (Kd.R_types HO_738001.out BK767.out (by decide)) (fun _ hk => hk.2) (.int .i64 t761)) (fun _ hk => hk.2) (.slice Ao141 t762.length co141)) (fun _ h_ => h_.1))) hb); have n2_ := Aside0.mk (Kd.R_below (by (with_reducible repeat (first | apply Kd.R_alloc | apply Kd.R_drewN | apply Kd.R_drew)); exact (Kd.R_mono (Kd.R_far (p := ⟨gb767, 1, none⟩) (Kd.R_far (p := ⟨gb767, 0, none⟩) (Kd.R_types HO_745001.out BK767.out (by decide)) (fun _ hk => hk.2) (.int .i64 t761)) (fun _ hk => hk.2) (.slice Ao141 t762.length co141)) (fun _ h_ => h_.1))) hb); have n3_ := Aside0.mk (Kd.R_below (by (with_reducible repeat (first | apply Kd.R_alloc | apply Kd.R_drewN | apply Kd.R_drew)); exact (Kd.R_mono (Kd.R_far (p := ⟨gb767, 1, none⟩) (Kd.R_far (p := ⟨gb767, 0, none⟩) (Kd.R_types HO760.out BK767.out (by decide)) (fun _ hk => hk.2) (.int .i64 t761)) (fun _ hk => hk.2) (.slice Ao141 t762.length co141)) (fun _ h_ => h_.1))) hb); have n4_ := Aside0.mk (Kd.R_below (by (with_reducible repeat (first | apply Kd.R_alloc | apply Kd.R_drewN | apply Kd.R_drew)); exact (Kd.R_mono (Kd.R_far (p := ⟨gb767, 1, none⟩) (Kd.R_far (p := ⟨gb767, 0, none⟩) (Kd.R_types HO764.out BK767.out (by decide)) (fun _ hk => hk.2) (.int .i64 t761)) (fun _ hk => hk.2) (.slice Ao141 t762.length co141)) (fun _ h_ => h_.1))) hb); have n5_ := Aside0.mk (blk_below (g := gb720) (o := .cells #[.int .i64 a0_0, .slice A0_1 l0_1.length c0_1] 26 (0, 0)) (by (with_reducible repeat (first | refine blk_drewN ?_ _ | refine blk_drew ?_ | refine blk_alloc ?_ _)); refine blk_far ?_ NB720_767.out _; (with_reducible repeat (first | refine blk_drewN ?_ _ | refine blk_drew ?_ | refine blk_alloc ?_ _)); refine blk_far ?_ NB720_767.out _; (with_reducible repeat (first | refine blk_drewN ?_ _ | refine blk_drew ?_ | refine blk_alloc ?_ _)); exact BK720.out) hb); have n6_ := Aside0.mk (blk_below (g := gb732) (o := .cells #[.int .i64 t726, .slice Ao22 t727.length co22] 28 (0, 0)) (by (with_reducible repeat (first | refine blk_drewN ?_ _ | refine blk_drew ?_ | refine blk_alloc ?_ _)); refine blk_far ?_ NB732_767.out _; (with_reducible repeat (first | refine blk_drewN ?_ _ | refine blk_drew ?_ | refine blk_alloc ?_ _)); refine blk_far ?_ NB732_767.out _; (with_reducible repeat (first | refine blk_drewN ?_ _ | refine blk_drew ?_ | refine blk_alloc ?_ _)); exact BK732.out) hb); have n7_ := Aside0.mk (blk_below (g := gb737) (o := .cells #[.int .i64 t733, .slice Ao29 t752.length co29] 28 (0, 0)) (by (with_reducible repeat (first | refine blk_drewN ?_ _ | refine blk_drew ?_ | refine blk_alloc ?_ _)); refine blk_far ?_ NB737_767.out _; (with_reducible repeat (first | refine blk_drewN ?_ _ | refine blk_drew ?_ | refine blk_alloc ?_ _)); refine blk_far ?_ NB737_767.out _; (with_reducible repeat (first | refine blk_drewN ?_ _ | refine blk_drew ?_ | refine blk_alloc ?_ _)); exact BK737.out) hb); have n8_ := Aside0.mk (blk_below (g := gb744) (o := .cells #[.int .i64 t738, .slice Ao36 t739.length co36] 28 (0, 0)) (by (with_reducible repeat (first | refine blk_drewN ?_ _ | refine blk_drew ?_ | refine blk_alloc ?_ _)); refine blk_far ?_ NB744_767.out _; (with_reducible repeat (first | refine blk_drewN ?_ _ | refine blk_drew ?_ | refine blk_alloc ?_ _)); refine blk_far ?_ NB744_767.out _; (with_reducible repeat (first | refine blk_drewN ?_ _ | refine blk_drew ?_ | refine blk_alloc ?_ _)); exact BK744.out) hb); have n9_ := Aside0.mk (blk_below (g := gb767) (o := .cells #[.int .i64 t761, .slice Ao141 t762.length co141] 28 (0, 0)) (by (with_reducible repeat (first | refine blk_drewN ?_ _ | refine blk_drew ?_ | refine blk_alloc ?_ _)); refine blk_put (cs := #[.int .i64 t761, .slice none 0 0]) ?_ 1 _ rfl; (with_reducible repeat (first | refine blk_drewN ?_ _ | refine blk_drew ?_ | refine blk_alloc ?_ _)); refine blk_put (cs := #[.int .i64 0, .slice none 0 0]) ?_ 0 _ rfl; (with_reducible repeat (first | refine blk_drewN ?_ _ | refine blk_drew ?_ | refine blk_alloc ?_ _)); exact BK767.out) hb); have n10_ := Aside0.mk (below_step (by repeat (first | (with_reducible first | exact HB.out | apply below_alloc | apply pw_below_drewN | apply below_drew1 | refine below_set ?_ GE720.out | refine below_set ?_ GE732.out | refine below_set ?_ GE737.out | refine below_set ?_ GE744.out | refine below_set ?_ GE767.out) | exact HB.out)) hb); clear HO_733001; clear HO_738001; clear HO_745001; clear HO760; clear HO764; clear BK720; clear BK732; clear BK737; clear BK744; clear BK767; clear HB; have HO_733001 := n0_; have HO_738001 := n1_; have HO_745001 := n2_; have HO760 := n3_; have HO764 := n4_; have BK720 := n5_; have BK732 := n6_; have BK737 := n7_; have BK744 := n8_; have BK767 := n9_; have HB := n10_; clear n0_ n1_ n2_ n3_ n4_ n5_ n6_ n7_ n8_ n9_ n10_; (try clear hb); (try clear hb2); (try clear hk); (try clear hi)))
                            go_meet
                            case rel => exact ⟨_, (true), (by first | rfl | (simp; done) | (simp [*]; done)), H', ⟨by have := HJ10.out; have := HJ68.out; first | omega | exact Nat.le_refl _⟩, ⟨by (try simp only [hl738001_68]); (with_reducible repeat (first | apply Kd.R_alloc | apply Kd.R_drewN | apply Kd.R_drew)); exact Kd.R_mono HO_733001.out (fun _ hk => ⟨hk.1.1.1, ⟨hk.1.1.2, hk.2⟩⟩)⟩, ⟨by (try simp only [hl738001_68]); (with_reducible repeat (first | apply Kd.R_alloc | apply Kd.R_drewN | apply Kd.R_drew)); exact Kd.R_mono HO_738001.out (fun _ hk => ⟨hk.1.1.1, ⟨hk.1.1.2, hk.2⟩⟩)⟩, ⟨by (try simp only [hl738001_68]); (with_reducible repeat (first | apply Kd.R_alloc | apply Kd.R_drewN | apply Kd.R_drew)); exact Kd.R_mono HO_745001.out (fun _ hk => ⟨hk.1.1.1, ⟨hk.1.1.2, hk.2⟩⟩)⟩, ⟨by (try simp only [hl738001_68]); (with_reducible repeat (first | apply Kd.R_alloc | apply Kd.R_drewN | apply Kd.R_drew)); exact Kd.R_mono HO764.out (fun _ hk => ⟨hk.1.1.1.2, ⟨hk.1.1.2, hk.1.2⟩⟩)⟩, ⟨by (try simp only [hl738001_68]); (with_reducible repeat (first | refine blk_drewN ?_ _ | refine blk_drew ?_ | refine blk_alloc ?_ _)); exact BK720.out⟩, ⟨by (try simp only [hl738001_68]); (with_reducible repeat (first | refine blk_drewN ?_ _ | refine blk_drew ?_ | refine blk_alloc ?_ _)); exact BK732.out⟩, ⟨by (try simp only [hl738001_68]); (with_reducible repeat (first | refine blk_drewN ?_ _ | refine blk_drew ?_ | refine blk_alloc ?_ _)); exact BK737.out⟩, ⟨by (try simp only [hl738001_68]); (with_reducible repeat (first | refine blk_drewN ?_ _ | refine blk_drew ?_ | refine blk_alloc ?_ _)); exact BK744.out⟩, ⟨by (try simp only [hl738001_68]); (with_reducible repeat (first | refine blk_drewN ?_ _ | refine blk_drew ?_ | refine blk_alloc ?_ _)); exact BK767.out⟩, ⟨by repeat (first | (with_reducible first | exact HB.out | apply below_alloc | apply pw_below_drewN | apply below_drew1 | refine below_set ?_ GE720.out | refine below_set ?_ GE732.out | refine below_set ?_ GE737.out | refine below_set ?_ GE744.out | refine below_set ?_ GE767.out) | exact HB.out)⟩⟩
                        · replace c143 := Bool.eq_false_iff.mpr c143
                          subst c143
                          have H1 : (laws_FnExactIdempotentOf.j2 kj68 t754 true t738 t755) = some r := by rw [if_neg (show ¬ (false = true) by decide)] at H; exact H
                          clear H
                          have H := H1
                          clear H1
                          have H' := Aside0.mk H
                          clear H
                          have hnb165 := NB767_720.out
                          have hnc165 := NB720_767.out
                          have hnb166 := NB767_732.out
                          have hnc166 := NB732_767.out
                          have hnb167 := NB767_737.out
                          have hnc167 := NB737_767.out
                          have hnb168 := NB767_744.out
                          have hnc168 := NB744_767.out
                          have hcz169_0 : w135.cell? ⟨gb767, 0, none⟩ = some (.int .i64 0) := (blk_cell BK767.out 0).trans rfl
                          have hcz169_1 : w135.cell? ⟨gb767, 1, none⟩ = some (.slice none 0 0) := (blk_cell BK767.out 1).trans rfl
                          have hfz169_0 := blk_frozen BK767.out 0
                          have hfz169_1 := blk_frozen BK767.out 1
                          have hnb170 := NB732_720.out
                          have hnc170 := NB720_732.out
                          have hnb171 := NB732_737.out
                          have hnc171 := NB737_732.out
                          have hnb172 := NB732_744.out
                          have hnc172 := NB744_732.out
                          have hcz173_0 : w135.cell? ⟨gb732, 0, none⟩ = some (.int .i64 t726) := (blk_cell BK732.out 0).trans rfl
                          have hcz173_1 : w135.cell? ⟨gb732, 1, none⟩ = some (.slice Ao22 t727.length co22) := (blk_cell BK732.out 1).trans rfl
                          have hfz173_0 := blk_frozen BK732.out 0
                          have hfz173_1 := blk_frozen BK732.out 1
                          go_wp2_with (first | ((with_reducible refine gate_callee (f := 21) rfl ?_); refine goesL_ (some 97) rfl rfl Try.func21 (by kernel_rfl) rfl #[.agg #[.int .i64 t761, .slice Ao141 t762.length co141], .agg #[.int .i64 t726, .slice Ao22 t727.length co22]] rfl (by (try simp only [List.map_toArray, List.map_cons, List.map_nil]); first | done | rfl | (simp only [List.length_drop, List.length_take]; rfl)) ?_; (with_reducible refine (laws_eqMatrix.calls kj68 t761 _ _ t762 t726 _ _ t727 false _ ?side1 ?side2 ?side3 ?side4 A142.out).mono ?_); (case side1 => refine (Kd.R_reads' (e := 3) (base := w.heap.size) (ok := fun k_ => ((((True ∧ some k_ ≠ (.slice Ao22 t727.length co22 : Value).ownBlock) ∧ some k_ ≠ (.slice Ao29 t752.length co29 : Value).ownBlock) ∧ some k_ ≠ (.slice Ao36 t739.length co36 : Value).ownBlock) ∧ some k_ ≠ (.slice Ao133 t758.length co133 : Value).ownBlock)) (n := t762.length) (c := co141) ?_).2.2; exact (by (with_reducible repeat (first | apply Kd.R_alloc | apply Kd.R_drewN | apply Kd.R_drew)); exact (Kd.R_mono (Kd.R_far (p := ⟨gb767, 1, none⟩) (Kd.R_far (p := ⟨gb767, 0, none⟩) (Kd.R_types HO764.out BK767.out (by decide)) (fun _ hk => hk.2) (.int .i64 t761)) (fun _ hk => hk.2) (.slice Ao141 t762.length co141)) (fun _ h_ => h_.1)))); (case side2 => exact (Kd.R_reads' HO764.out).2.1); (case side3 => refine (Kd.R_reads' (e := 3) (base := w.heap.size) (ok := fun k_ => (((some k_ ≠ (.slice Ao29 t752.length co29 : Value).ownBlock ∧ some k_ ≠ (.slice Ao36 t739.length co36 : Value).ownBlock) ∧ some k_ ≠ (.slice Ao133 t758.length co133 : Value).ownBlock) ∧ some k_ ≠ (.slice Ao141 t762.length co141 : Value).ownBlock)) (n := t727.length) (c := co22) ?_).2.2; exact (by (with_reducible repeat (first | apply Kd.R_alloc | apply Kd.R_drewN | apply Kd.R_drew)); exact (Kd.R_mono (Kd.R_far (p := ⟨gb767, 1, none⟩) (Kd.R_far (p := ⟨gb767, 0, none⟩) (Kd.R_types HO_733001.out BK767.out (by decide)) (fun _ hk => hk.2) (.int .i64 t761)) (fun _ hk => hk.2) (.slice Ao141 t762.length co141)) (fun _ h_ => h_.1)))); (case side4 => exact (Kd.R_reads' HO_733001.out).2.1); rintro e w174 ⟨rfl, hb⟩; refine ⟨_, rfl, ?_⟩; have n0_ := Aside0.mk (Kd.R_below (by (with_reducible repeat (first | apply Kd.R_alloc | apply Kd.R_drewN | apply Kd.R_drew)); exact (Kd.R_mono (Kd.R_far (p := ⟨gb767, 1, none⟩) (Kd.R_far (p := ⟨gb767, 0, none⟩) (Kd.R_types HO_733001.out BK767.out (by decide)) (fun _ hk => hk.2) (.int .i64 t761)) (fun _ hk => hk.2) (.slice Ao141 t762.length co141)) (fun _ h_ => h_.1))) hb); have n1_ := Aside0.mk (Kd.R_below (by (with_reducible repeat (first | apply Kd.R_alloc | apply Kd.R_drewN | apply Kd.R_drew)); exact (Kd.R_mono (Kd.R_far (p := ⟨gb767, 1, none⟩) (Kd.R_far (p := ⟨gb767, 0, none⟩) (Kd.R_types HO_738001.out BK767.out (by decide)) (fun _ hk => hk.2) (.int .i64 t761)) (fun _ hk => hk.2) (.slice Ao141 t762.length co141)) (fun _ h_ => h_.1))) hb); have n2_ := Aside0.mk (Kd.R_below (by (with_reducible repeat (first | apply Kd.R_alloc | apply Kd.R_drewN | apply Kd.R_drew)); exact (Kd.R_mono (Kd.R_far (p := ⟨gb767, 1, none⟩) (Kd.R_far (p := ⟨gb767, 0, none⟩) (Kd.R_types HO_745001.out BK767.out (by decide)) (fun _ hk => hk.2) (.int .i64 t761)) (fun _ hk => hk.2) (.slice Ao141 t762.length co141)) (fun _ h_ => h_.1))) hb); have n3_ := Aside0.mk (Kd.R_below (by (with_reducible repeat (first | apply Kd.R_alloc | apply Kd.R_drewN | apply Kd.R_drew)); exact (Kd.R_mono (Kd.R_far (p := ⟨gb767, 1, none⟩) (Kd.R_far (p := ⟨gb767, 0, none⟩) (Kd.R_types HO760.out BK767.out (by decide)) (fun _ hk => hk.2) (.int .i64 t761)) (fun _ hk => hk.2) (.slice Ao141 t762.length co141)) (fun _ h_ => h_.1))) hb); have n4_ := Aside0.mk (Kd.R_below (by (with_reducible repeat (first | apply Kd.R_alloc | apply Kd.R_drewN | apply Kd.R_drew)); exact (Kd.R_mono (Kd.R_far (p := ⟨gb767, 1, none⟩) (Kd.R_far (p := ⟨gb767, 0, none⟩) (Kd.R_types HO764.out BK767.out (by decide)) (fun _ hk => hk.2) (.int .i64 t761)) (fun _ hk => hk.2) (.slice Ao141 t762.length co141)) (fun _ h_ => h_.1))) hb); have n5_ := Aside0.mk (blk_below (g := gb720) (o := .cells #[.int .i64 a0_0, .slice A0_1 l0_1.length c0_1] 26 (0, 0)) (by (with_reducible repeat (first | refine blk_drewN ?_ _ | refine blk_drew ?_ | refine blk_alloc ?_ _)); refine blk_far ?_ NB720_767.out _; (with_reducible repeat (first | refine blk_drewN ?_ _ | refine blk_drew ?_ | refine blk_alloc ?_ _)); refine blk_far ?_ NB720_767.out _; (with_reducible repeat (first | refine blk_drewN ?_ _ | refine blk_drew ?_ | refine blk_alloc ?_ _)); exact BK720.out) hb); have n6_ := Aside0.mk (blk_below (g := gb732) (o := .cells #[.int .i64 t726, .slice Ao22 t727.length co22] 28 (0, 0)) (by (with_reducible repeat (first | refine blk_drewN ?_ _ | refine blk_drew ?_ | refine blk_alloc ?_ _)); refine blk_far ?_ NB732_767.out _; (with_reducible repeat (first | refine blk_drewN ?_ _ | refine blk_drew ?_ | refine blk_alloc ?_ _)); refine blk_far ?_ NB732_767.out _; (with_reducible repeat (first | refine blk_drewN ?_ _ | refine blk_drew ?_ | refine blk_alloc ?_ _)); exact BK732.out) hb); have n7_ := Aside0.mk (blk_below (g := gb737) (o := .cells #[.int .i64 t733, .slice Ao29 t752.length co29] 28 (0, 0)) (by (with_reducible repeat (first | refine blk_drewN ?_ _ | refine blk_drew ?_ | refine blk_alloc ?_ _)); refine blk_far ?_ NB737_767.out _; (with_reducible repeat (first | refine blk_drewN ?_ _ | refine blk_drew ?_ | refine blk_alloc ?_ _)); refine blk_far ?_ NB737_767.out _; (with_reducible repeat (first | refine blk_drewN ?_ _ | refine blk_drew ?_ | refine blk_alloc ?_ _)); exact BK737.out) hb); have n8_ := Aside0.mk (blk_below (g := gb744) (o := .cells #[.int .i64 t738, .slice Ao36 t739.length co36] 28 (0, 0)) (by (with_reducible repeat (first | refine blk_drewN ?_ _ | refine blk_drew ?_ | refine blk_alloc ?_ _)); refine blk_far ?_ NB744_767.out _; (with_reducible repeat (first | refine blk_drewN ?_ _ | refine blk_drew ?_ | refine blk_alloc ?_ _)); refine blk_far ?_ NB744_767.out _; (with_reducible repeat (first | refine blk_drewN ?_ _ | refine blk_drew ?_ | refine blk_alloc ?_ _)); exact BK744.out) hb); have n9_ := Aside0.mk (blk_below (g := gb767) (o := .cells #[.int .i64 t761, .slice Ao141 t762.length co141] 28 (0, 0)) (by (with_reducible repeat (first | refine blk_drewN ?_ _ | refine blk_drew ?_ | refine blk_alloc ?_ _)); refine blk_put (cs := #[.int .i64 t761, .slice none 0 0]) ?_ 1 _ rfl; (with_reducible repeat (first | refine blk_drewN ?_ _ | refine blk_drew ?_ | refine blk_alloc ?_ _)); refine blk_put (cs := #[.int .i64 0, .slice none 0 0]) ?_ 0 _ rfl; (with_reducible repeat (first | refine blk_drewN ?_ _ | refine blk_drew ?_ | refine blk_alloc ?_ _)); exact BK767.out) hb); have n10_ := Aside0.mk (below_step (by repeat (first | (with_reducible first | exact HB.out | apply below_alloc | apply pw_below_drewN | apply below_drew1 | refine below_set ?_ GE720.out | refine below_set ?_ GE732.out | refine below_set ?_ GE737.out | refine below_set ?_ GE744.out | refine below_set ?_ GE767.out) | exact HB.out)) hb); clear HO_733001; clear HO_738001; clear HO_745001; clear HO760; clear HO764; clear BK720; clear BK732; clear BK737; clear BK744; clear BK767; clear HB; have HO_733001 := n0_; have HO_738001 := n1_; have HO_745001 := n2_; have HO760 := n3_; have HO764 := n4_; have BK720 := n5_; have BK732 := n6_; have BK737 := n7_; have BK744 := n8_; have BK767 := n9_; have HB := n10_; clear n0_ n1_ n2_ n3_ n4_ n5_ n6_ n7_ n8_ n9_ n10_; (try clear hb); (try clear hb2); (try clear hk); (try clear hi)))
                          go_meet
                          case rel => exact ⟨_, (true), (by first | rfl | (simp; done) | (simp [*]; done)), H', ⟨by have := HJ10.out; have := HJ68.out; first | omega | exact Nat.le_refl _⟩, ⟨by (try simp only [hl738001_68]); (with_reducible repeat (first | apply Kd.R_alloc | apply Kd.R_drewN | apply Kd.R_drew)); exact Kd.R_mono HO_733001.out (fun _ hk => ⟨hk.1.1.1, ⟨hk.1.1.2, hk.2⟩⟩)⟩, ⟨by (try simp only [hl738001_68]); (with_reducible repeat (first | apply Kd.R_alloc | apply Kd.R_drewN | apply Kd.R_drew)); exact Kd.R_mono HO_738001.out (fun _ hk => ⟨hk.1.1.1, ⟨hk.1.1.2, hk.2⟩⟩)⟩, ⟨by (try simp only [hl738001_68]); (with_reducible repeat (first | apply Kd.R_alloc | apply Kd.R_drewN | apply Kd.R_drew)); exact Kd.R_mono HO_745001.out (fun _ hk => ⟨hk.1.1.1, ⟨hk.1.1.2, hk.2⟩⟩)⟩, ⟨by (try simp only [hl738001_68]); (with_reducible repeat (first | apply Kd.R_alloc | apply Kd.R_drewN | apply Kd.R_drew)); exact Kd.R_mono HO764.out (fun _ hk => ⟨hk.1.1.1.2, ⟨hk.1.1.2, hk.1.2⟩⟩)⟩, ⟨by (try simp only [hl738001_68]); (with_reducible repeat (first | refine blk_drewN ?_ _ | refine blk_drew ?_ | refine blk_alloc ?_ _)); exact BK720.out⟩, ⟨by (try simp only [hl738001_68]); (with_reducible repeat (first | refine blk_drewN ?_ _ | refine blk_drew ?_ | refine blk_alloc ?_ _)); exact BK732.out⟩, ⟨by (try simp only [hl738001_68]); (with_reducible repeat (first | refine blk_drewN ?_ _ | refine blk_drew ?_ | refine blk_alloc ?_ _)); exact BK737.out⟩, ⟨by (try simp only [hl738001_68]); (with_reducible repeat (first | refine blk_drewN ?_ _ | refine blk_drew ?_ | refine blk_alloc ?_ _)); exact BK744.out⟩, ⟨by (try simp only [hl738001_68]); (with_reducible repeat (first | refine blk_drewN ?_ _ | refine blk_drew ?_ | refine blk_alloc ?_ _)); exact BK767.out⟩, ⟨by repeat (first | (with_reducible first | exact HB.out | apply below_alloc | apply pw_below_drewN | apply below_drew1 | refine below_set ?_ GE720.out | refine below_set ?_ GE732.out | refine below_set ?_ GE737.out | refine below_set ?_ GE744.out | refine below_set ?_ GE767.out) | exact HB.out)⟩⟩
                      case rest =>
                        clear HC121
                        try clear c1
                        try clear c2
                        try clear p2
                        try clear c3
                        try clear c3b0
                        try clear c4
                        try clear c5
                        try clear c6
                        try clear c7
                        try clear c8
                        try clear c9
                        try clear c10
                        try clear c11
                        try clear c12
                        try clear c13
                        try clear c14
                        try clear c15
                        try clear c16
                        try clear c17
                        try clear c19
                        try clear c20
                        try clear c21
                        try clear c22
                        try clear c23
                        try clear c26
                        try clear c27
                        try clear c29
                        try clear c30
                        try clear c32
                        try clear c33
                        try clear c34
                        try clear c38
                        try clear c39
                        try clear c39b0
                        try clear c39b1
                        try clear c40
                        try clear c41
                        try clear c42
                        try clear c44
                        try clear c45
                        try clear c48
                        try clear c49
                        try clear c50
                        try clear c52
                        try clear c53
                        try clear c56
                        try clear c57
                        try clear c58
                        try clear c60
                        try clear c61
                        try clear c64
                        try clear c67
                        try clear c74
                        try clear c75
                        try clear c76
                        try clear c79
                        try clear c79b0
                        try clear c81
                        try clear c82
                        try clear c82b0
                        try clear c82b1
                        try clear c83
                        try clear c84
                        try clear c85
                        try clear c87
                        try clear c88
                        try clear c91
                        try clear c92
                        try clear c93
                        try clear c95
                        try clear c96
                        try clear c99
                        try clear c100
                        try clear c101
                        try clear c103
                        try clear c104
                        try clear c107
                        try clear c110
                        try clear c110b0
                        try clear c111
                        try clear c112
                        try clear c113
                        try clear c118
                        try clear c118b0
                        try clear c118b1
                        try clear c122
                        try clear c123
                        try clear c124
                        try clear c129
                        try clear c130
                        try clear c136
                        try clear c137
                        try clear c138
                        try clear c139
                        try clear c143
                        try clear c144
                        try clear c144b0
                        try clear c144b1
                        try clear c145
                        try clear c146
                        try clear c147
                        try clear c148
                        try clear c150
                        try clear c151
                        try clear c152
                        try clear c155
                        try clear c156
                        try clear c157
                        try clear c158
                        try clear c160
                        try clear c161
                        try clear c162
                        try clear c165
                        try clear c166
                        try clear c167
                        try clear c168
                        try clear c170
                        try clear c171
                        try clear c172
                        try clear hcz102_0
                        try clear hcz102_1
                        try clear hcz105_0
                        try clear hcz105_1
                        try clear hcz114_0
                        try clear hcz114_1
                        try clear hcz116_0
                        try clear hcz116_1
                        try clear hcz125_0
                        try clear hcz125_1
                        try clear hcz127_0
                        try clear hcz127_1
                        try clear hcz131_0
                        try clear hcz131_1
                        try clear hcz13_0
                        try clear hcz13_1
                        try clear hcz140_0
                        try clear hcz140_1
                        try clear hcz149_0
                        try clear hcz149_1
                        try clear hcz153_0
                        try clear hcz153_1
                        try clear hcz159_0
                        try clear hcz159_1
                        try clear hcz15_0
                        try clear hcz15_1
                        try clear hcz163_0
                        try clear hcz163_1
                        try clear hcz169_0
                        try clear hcz169_1
                        try clear hcz173_0
                        try clear hcz173_1
                        try clear hcz21_0
                        try clear hcz21_1
                        try clear hcz23_0
                        try clear hcz23_1
                        try clear hcz28_0
                        try clear hcz28_1
                        try clear hcz35_0
                        try clear hcz35_1
                        try clear hcz43_0
                        try clear hcz43_1
                        try clear hcz46_0
                        try clear hcz46_1
                        try clear hcz51_0
                        try clear hcz51_1
                        try clear hcz54_0
                        try clear hcz54_1
                        try clear hcz59_0
                        try clear hcz59_1
                        try clear hcz5_0
                        try clear hcz5_1
                        try clear hcz62_0
                        try clear hcz62_1
                        try clear hcz77_0
                        try clear hcz77_1
                        try clear hcz86_0
                        try clear hcz86_1
                        try clear hcz89_0
                        try clear hcz89_1
                        try clear hcz94_0
                        try clear hcz94_1
                        try clear hcz97_0
                        try clear hcz97_1
                        try clear hfz102_0
                        try clear hfz102_1
                        try clear hfz105_0
                        try clear hfz105_1
                        try clear hfz114_0
                        try clear hfz114_1
                        try clear hfz116_0
                        try clear hfz116_1
                        try clear hfz125_0
                        try clear hfz125_1
                        try clear hfz127_0
                        try clear hfz127_1
                        try clear hfz131_0
                        try clear hfz131_1
                        try clear hfz13_0
                        try clear hfz13_1
                        try clear hfz140_0
                        try clear hfz140_1
                        try clear hfz149_0
                        try clear hfz149_1
                        try clear hfz153_0
                        try clear hfz153_1
                        try clear hfz159_0
                        try clear hfz159_1
                        try clear hfz15_0
                        try clear hfz15_1
                        try clear hfz163_0
                        try clear hfz163_1
                        try clear hfz169_0
                        try clear hfz169_1
                        try clear hfz173_0
                        try clear hfz173_1
                        try clear hfz21_0
                        try clear hfz21_1
                        try clear hfz23_0
                        try clear hfz23_1
                        try clear hfz28_0
                        try clear hfz28_1
                        try clear hfz35_0
                        try clear hfz35_1
                        try clear hfz43_0
                        try clear hfz43_1
                        try clear hfz46_0
                        try clear hfz46_1
                        try clear hfz51_0
                        try clear hfz51_1
                        try clear hfz54_0
                        try clear hfz54_1
                        try clear hfz59_0
                        try clear hfz59_1
                        try clear hfz5_0
                        try clear hfz5_1
                        try clear hfz62_0
                        try clear hfz62_1
                        try clear hfz77_0
                        try clear hfz77_1
                        try clear hfz86_0
                        try clear hfz86_1
                        try clear hfz89_0
                        try clear hfz89_1
                        try clear hfz94_0
                        try clear hfz94_1
                        try clear hfz97_0
                        try clear hfz97_1
                        try clear p2
                        obtain ⟨kq, x108_120, rfl, HA, HJ120, HO_733001, HO_738001, HO_745001, HO_768001, BK720, BK732, BK737, BK744, BK767, HB⟩ := hcut
                        have hl745001_120 := (Kd.R_reads' HO_745001.out).1
                        rw [hl745001_120] at HO_745001
                        (try simp only [hl745001_120])
                        (try simp only [hl745001_120] at BK720)
                        (try simp only [hl745001_120] at BK732)
                        (try simp only [hl745001_120] at BK737)
                        (try simp only [hl745001_120] at BK744)
                        (try simp only [hl745001_120] at BK767)
                        (try simp only [hl745001_120] at HO_733001)
                        (try simp only [hl745001_120] at HO_738001)
                        (try simp only [hl745001_120] at HO_768001)
                        cases kq with
                        | zero => exact absurd HA.out (by simp [laws_FnExactIdempotentOf.j2])
                        | succ kj120 =>
                          have H := HA.out
                          clear HA
                          simp only [laws_FnExactIdempotentOf.j2] at H
                          by_cases c175 : x108_120 = true
                          · subst c175
                            have H1 : (some false) = some r := by rw [if_pos rfl] at H; exact H
                            clear H
                            have H := H1
                            clear H1
                            obtain rfl := Option.some.inj H
                            go_wp2
                            go_ret
                            exact ⟨by first | rfl | (simp [errW_none, errW_some] <;> rfl) | (simp [*, errW_none, errW_some] <;> rfl), by repeat (first | (with_reducible first | exact HB.out | apply below_alloc | apply pw_below_drewN | apply below_drew1 | refine below_set ?_ GE720.out | refine below_set ?_ GE732.out | refine below_set ?_ GE737.out | refine below_set ?_ GE744.out | refine below_set ?_ GE767.out) | exact HB.out)⟩
                          · replace c175 := Bool.eq_false_iff.mpr c175
                            subst c175
                            have H1 : ((laws_heldMatrix.f kj120 t738 t755 1).bind fun t769 => (if t769 < 0 then (some false) else (if t769 = t754 then (some true) else (some false)))) = some r := by rw [if_neg (show ¬ (false = true) by decide)] at H; exact H
                            clear H
                            have H := H1
                            clear H1
                            replace H := Option.bind_eq_some_iff.mp H
                            obtain ⟨t769, A1760, H⟩ := H
                            replace H : (if t769 < 0 then (some false) else (if t769 = t754 then (some true) else (some false))) = some r := H
                            have A176 := Aside0.mk A1760
                            clear A1760
                            by_cases c177 : t769 < 0
                            · rw [if_pos c177] at H
                              have c177b0 : decide (t769 < 0) = true := decide_eq_true c177
                              clear c177
                              obtain rfl := Option.some.inj H
                              have hnb178 := NB744_720.out
                              have hnc178 := NB720_744.out
                              have hnb179 := NB744_732.out
                              have hnc179 := NB732_744.out
                              have hnb180 := NB744_737.out
                              have hnc180 := NB737_744.out
                              have hnb181 := NB744_767.out
                              have hnc181 := NB767_744.out
                              have hcz182_0 : wc.cell? ⟨gb744, 0, none⟩ = some (.int .i64 t738) := (blk_cell BK744.out 0).trans rfl
                              have hcz182_1 : wc.cell? ⟨gb744, 1, none⟩ = some (.slice Ao36 t755.length co36) := (blk_cell BK744.out 1).trans rfl
                              have hfz182_0 := blk_frozen BK744.out 0
                              have hfz182_1 := blk_frozen BK744.out 1
                              go_wp2_with (first | ((with_reducible refine gate_callee (f := 23) rfl ?_); refine goesL_ (some 111) rfl rfl Try.func23 (by kernel_rfl) rfl #[.agg #[.int .i64 t738, .slice Ao36 t755.length co36], .int .i64 1] rfl (by (try simp only [List.map_toArray, List.map_cons, List.map_nil]); first | done | rfl | (simp only [List.length_drop, List.length_take]; rfl)) ?_; (with_reducible refine (laws_heldMatrix.calls kj120 t738 _ _ t755 1 t769 _ ?side1 ?side2 A176.out).mono ?_); (case side1 => repeat (first | exact (Kd.R_reads' HO_745001.out).2.2 | (with_reducible refine Kd.C_alloc ?_ _) | (with_reducible refine Kd.C_drewN ?_ _) | (with_reducible refine Kd.C_drew ?_))); (case side2 => exact (Kd.R_reads' HO_745001.out).2.1); rintro e w183 ⟨rfl, hb⟩; refine ⟨_, rfl, ?_⟩; have n0_ := Aside0.mk (Kd.R_below (by (with_reducible repeat (first | apply Kd.R_alloc | apply Kd.R_drewN | apply Kd.R_drew)); exact HO_733001.out) hb); have n1_ := Aside0.mk (Kd.R_below (by (with_reducible repeat (first | apply Kd.R_alloc | apply Kd.R_drewN | apply Kd.R_drew)); exact HO_738001.out) hb); have n2_ := Aside0.mk (Kd.R_below (by (with_reducible repeat (first | apply Kd.R_alloc | apply Kd.R_drewN | apply Kd.R_drew)); exact HO_745001.out) hb); have n3_ := Aside0.mk (Kd.R_below (by (with_reducible repeat (first | apply Kd.R_alloc | apply Kd.R_drewN | apply Kd.R_drew)); exact HO_768001.out) hb); have n4_ := Aside0.mk (blk_below (g := gb720) (o := .cells #[.int .i64 a0_0, .slice A0_1 l0_1.length c0_1] 26 (0, 0)) (by (with_reducible repeat (first | refine blk_drewN ?_ _ | refine blk_drew ?_ | refine blk_alloc ?_ _)); exact BK720.out) hb); have n5_ := Aside0.mk (blk_below (g := gb732) (o := .cells #[.int .i64 t726, .slice Ao22 t727.length co22] 28 (0, 0)) (by (with_reducible repeat (first | refine blk_drewN ?_ _ | refine blk_drew ?_ | refine blk_alloc ?_ _)); exact BK732.out) hb); have n6_ := Aside0.mk (blk_below (g := gb737) (o := .cells #[.int .i64 t733, .slice Ao29 t752.length co29] 28 (0, 0)) (by (with_reducible repeat (first | refine blk_drewN ?_ _ | refine blk_drew ?_ | refine blk_alloc ?_ _)); exact BK737.out) hb); have n7_ := Aside0.mk (blk_below (g := gb744) (o := .cells #[.int .i64 t738, .slice Ao36 t755.length co36] 28 (0, 0)) (by (with_reducible repeat (first | refine blk_drewN ?_ _ | refine blk_drew ?_ | refine blk_alloc ?_ _)); exact BK744.out) hb); have n8_ := Aside0.mk (blk_below (g := gb767) (o := .cells #[.int .i64 t761, .slice Ao141 t762.length co141] 28 (0, 0)) (by (with_reducible repeat (first | refine blk_drewN ?_ _ | refine blk_drew ?_ | refine blk_alloc ?_ _)); exact BK767.out) hb); have n9_ := Aside0.mk (below_step (by repeat (first | (with_reducible first | exact HB.out | apply below_alloc | apply pw_below_drewN | apply below_drew1 | refine below_set ?_ GE720.out | refine below_set ?_ GE732.out | refine below_set ?_ GE737.out | refine below_set ?_ GE744.out | refine below_set ?_ GE767.out) | exact HB.out)) hb); clear HO_733001; clear HO_738001; clear HO_745001; clear HO_768001; clear BK720; clear BK732; clear BK737; clear BK744; clear BK767; clear HB; have HO_733001 := n0_; have HO_738001 := n1_; have HO_745001 := n2_; have HO_768001 := n3_; have BK720 := n4_; have BK732 := n5_; have BK737 := n6_; have BK744 := n7_; have BK767 := n8_; have HB := n9_; clear n0_ n1_ n2_ n3_ n4_ n5_ n6_ n7_ n8_ n9_; (try clear hb); (try clear hb2); (try clear hk); (try clear hi)))
                              go_ret
                              exact ⟨by first | rfl | (simp [errW_none, errW_some] <;> rfl) | (simp [*, errW_none, errW_some] <;> rfl), by repeat (first | (with_reducible first | exact HB.out | apply below_alloc | apply pw_below_drewN | apply below_drew1 | refine below_set ?_ GE720.out | refine below_set ?_ GE732.out | refine below_set ?_ GE737.out | refine below_set ?_ GE744.out | refine below_set ?_ GE767.out) | exact HB.out)⟩
                            · rw [if_neg c177] at H
                              have c177b0 : decide (t769 < 0) = false := decide_eq_false c177
                              clear c177
                              by_cases c184 : t769 = t754
                              · rw [if_pos c184] at H
                                have c184b0 : (t769 == t754) = true := beq_iff_eq.mpr c184
                                have c184b1 : (t769 != t754) = false := bne_eq_false_iff_eq.mpr c184
                                clear c184
                                obtain rfl := Option.some.inj H
                                have hnb185 := NB744_720.out
                                have hnc185 := NB720_744.out
                                have hnb186 := NB744_732.out
                                have hnc186 := NB732_744.out
                                have hnb187 := NB744_737.out
                                have hnc187 := NB737_744.out
                                have hnb188 := NB744_767.out
                                have hnc188 := NB767_744.out
                                have hcz189_0 : wc.cell? ⟨gb744, 0, none⟩ = some (.int .i64 t738) := (blk_cell BK744.out 0).trans rfl
                                have hcz189_1 : wc.cell? ⟨gb744, 1, none⟩ = some (.slice Ao36 t755.length co36) := (blk_cell BK744.out 1).trans rfl
                                have hfz189_0 := blk_frozen BK744.out 0
                                have hfz189_1 := blk_frozen BK744.out 1
                                go_wp2_with (first | ((with_reducible refine gate_callee (f := 23) rfl ?_); refine goesL_ (some 111) rfl rfl Try.func23 (by kernel_rfl) rfl #[.agg #[.int .i64 t738, .slice Ao36 t755.length co36], .int .i64 1] rfl (by (try simp only [List.map_toArray, List.map_cons, List.map_nil]); first | done | rfl | (simp only [List.length_drop, List.length_take]; rfl)) ?_; (with_reducible refine (laws_heldMatrix.calls kj120 t738 _ _ t755 1 t769 _ ?side1 ?side2 A176.out).mono ?_); (case side1 => repeat (first | exact (Kd.R_reads' HO_745001.out).2.2 | (with_reducible refine Kd.C_alloc ?_ _) | (with_reducible refine Kd.C_drewN ?_ _) | (with_reducible refine Kd.C_drew ?_))); (case side2 => exact (Kd.R_reads' HO_745001.out).2.1); rintro e w190 ⟨rfl, hb⟩; refine ⟨_, rfl, ?_⟩; have n0_ := Aside0.mk (Kd.R_below (by (with_reducible repeat (first | apply Kd.R_alloc | apply Kd.R_drewN | apply Kd.R_drew)); exact HO_733001.out) hb); have n1_ := Aside0.mk (Kd.R_below (by (with_reducible repeat (first | apply Kd.R_alloc | apply Kd.R_drewN | apply Kd.R_drew)); exact HO_738001.out) hb); have n2_ := Aside0.mk (Kd.R_below (by (with_reducible repeat (first | apply Kd.R_alloc | apply Kd.R_drewN | apply Kd.R_drew)); exact HO_745001.out) hb); have n3_ := Aside0.mk (Kd.R_below (by (with_reducible repeat (first | apply Kd.R_alloc | apply Kd.R_drewN | apply Kd.R_drew)); exact HO_768001.out) hb); have n4_ := Aside0.mk (blk_below (g := gb720) (o := .cells #[.int .i64 a0_0, .slice A0_1 l0_1.length c0_1] 26 (0, 0)) (by (with_reducible repeat (first | refine blk_drewN ?_ _ | refine blk_drew ?_ | refine blk_alloc ?_ _)); exact BK720.out) hb); have n5_ := Aside0.mk (blk_below (g := gb732) (o := .cells #[.int .i64 t726, .slice Ao22 t727.length co22] 28 (0, 0)) (by (with_reducible repeat (first | refine blk_drewN ?_ _ | refine blk_drew ?_ | refine blk_alloc ?_ _)); exact BK732.out) hb); have n6_ := Aside0.mk (blk_below (g := gb737) (o := .cells #[.int .i64 t733, .slice Ao29 t752.length co29] 28 (0, 0)) (by (with_reducible repeat (first | refine blk_drewN ?_ _ | refine blk_drew ?_ | refine blk_alloc ?_ _)); exact BK737.out) hb); have n7_ := Aside0.mk (blk_below (g := gb744) (o := .cells #[.int .i64 t738, .slice Ao36 t755.length co36] 28 (0, 0)) (by (with_reducible repeat (first | refine blk_drewN ?_ _ | refine blk_drew ?_ | refine blk_alloc ?_ _)); exact BK744.out) hb); have n8_ := Aside0.mk (blk_below (g := gb767) (o := .cells #[.int .i64 t761, .slice Ao141 t762.length co141] 28 (0, 0)) (by (with_reducible repeat (first | refine blk_drewN ?_ _ | refine blk_drew ?_ | refine blk_alloc ?_ _)); exact BK767.out) hb); have n9_ := Aside0.mk (below_step (by repeat (first | (with_reducible first | exact HB.out | apply below_alloc | apply pw_below_drewN | apply below_drew1 | refine below_set ?_ GE720.out | refine below_set ?_ GE732.out | refine below_set ?_ GE737.out | refine below_set ?_ GE744.out | refine below_set ?_ GE767.out) | exact HB.out)) hb); clear HO_733001; clear HO_738001; clear HO_745001; clear HO_768001; clear BK720; clear BK732; clear BK737; clear BK744; clear BK767; clear HB; have HO_733001 := n0_; have HO_738001 := n1_; have HO_745001 := n2_; have HO_768001 := n3_; have BK720 := n4_; have BK732 := n5_; have BK737 := n6_; have BK744 := n7_; have BK767 := n8_; have HB := n9_; clear n0_ n1_ n2_ n3_ n4_ n5_ n6_ n7_ n8_ n9_; (try clear hb); (try clear hb2); (try clear hk); (try clear hi)))
                                go_ret
                                exact ⟨by first | rfl | (simp [errW_none, errW_some] <;> rfl) | (simp [*, errW_none, errW_some] <;> rfl), by repeat (first | (with_reducible first | exact HB.out | apply below_alloc | apply pw_below_drewN | apply below_drew1 | refine below_set ?_ GE720.out | refine below_set ?_ GE732.out | refine below_set ?_ GE737.out | refine below_set ?_ GE744.out | refine below_set ?_ GE767.out) | exact HB.out)⟩
                              · rw [if_neg c184] at H
                                have c184b0 : (t769 == t754) = false := beq_eq_false_iff_ne.mpr c184
                                have c184b1 : (t769 != t754) = true := bne_iff_ne.mpr c184
                                obtain rfl := Option.some.inj H
                                have hnb191 := NB744_720.out
                                have hnc191 := NB720_744.out
                                have hnb192 := NB744_732.out
                                have hnc192 := NB732_744.out
                                have hnb193 := NB744_737.out
                                have hnc193 := NB737_744.out
                                have hnb194 := NB744_767.out
                                have hnc194 := NB767_744.out
                                have hcz195_0 : wc.cell? ⟨gb744, 0, none⟩ = some (.int .i64 t738) := (blk_cell BK744.out 0).trans rfl
                                have hcz195_1 : wc.cell? ⟨gb744, 1, none⟩ = some (.slice Ao36 t755.length co36) := (blk_cell BK744.out 1).trans rfl
                                have hfz195_0 := blk_frozen BK744.out 0
                                have hfz195_1 := blk_frozen BK744.out 1
                                go_wp2_with (first | ((with_reducible refine gate_callee (f := 23) rfl ?_); refine goesL_ (some 111) rfl rfl Try.func23 (by kernel_rfl) rfl #[.agg #[.int .i64 t738, .slice Ao36 t755.length co36], .int .i64 1] rfl (by (try simp only [List.map_toArray, List.map_cons, List.map_nil]); first | done | rfl | (simp only [List.length_drop, List.length_take]; rfl)) ?_; (with_reducible refine (laws_heldMatrix.calls kj120 t738 _ _ t755 1 t769 _ ?side1 ?side2 A176.out).mono ?_); (case side1 => repeat (first | exact (Kd.R_reads' HO_745001.out).2.2 | (with_reducible refine Kd.C_alloc ?_ _) | (with_reducible refine Kd.C_drewN ?_ _) | (with_reducible refine Kd.C_drew ?_))); (case side2 => exact (Kd.R_reads' HO_745001.out).2.1); rintro e w196 ⟨rfl, hb⟩; refine ⟨_, rfl, ?_⟩; have n0_ := Aside0.mk (Kd.R_below (by (with_reducible repeat (first | apply Kd.R_alloc | apply Kd.R_drewN | apply Kd.R_drew)); exact HO_733001.out) hb); have n1_ := Aside0.mk (Kd.R_below (by (with_reducible repeat (first | apply Kd.R_alloc | apply Kd.R_drewN | apply Kd.R_drew)); exact HO_738001.out) hb); have n2_ := Aside0.mk (Kd.R_below (by (with_reducible repeat (first | apply Kd.R_alloc | apply Kd.R_drewN | apply Kd.R_drew)); exact HO_745001.out) hb); have n3_ := Aside0.mk (Kd.R_below (by (with_reducible repeat (first | apply Kd.R_alloc | apply Kd.R_drewN | apply Kd.R_drew)); exact HO_768001.out) hb); have n4_ := Aside0.mk (blk_below (g := gb720) (o := .cells #[.int .i64 a0_0, .slice A0_1 l0_1.length c0_1] 26 (0, 0)) (by (with_reducible repeat (first | refine blk_drewN ?_ _ | refine blk_drew ?_ | refine blk_alloc ?_ _)); exact BK720.out) hb); have n5_ := Aside0.mk (blk_below (g := gb732) (o := .cells #[.int .i64 t726, .slice Ao22 t727.length co22] 28 (0, 0)) (by (with_reducible repeat (first | refine blk_drewN ?_ _ | refine blk_drew ?_ | refine blk_alloc ?_ _)); exact BK732.out) hb); have n6_ := Aside0.mk (blk_below (g := gb737) (o := .cells #[.int .i64 t733, .slice Ao29 t752.length co29] 28 (0, 0)) (by (with_reducible repeat (first | refine blk_drewN ?_ _ | refine blk_drew ?_ | refine blk_alloc ?_ _)); exact BK737.out) hb); have n7_ := Aside0.mk (blk_below (g := gb744) (o := .cells #[.int .i64 t738, .slice Ao36 t755.length co36] 28 (0, 0)) (by (with_reducible repeat (first | refine blk_drewN ?_ _ | refine blk_drew ?_ | refine blk_alloc ?_ _)); exact BK744.out) hb); have n8_ := Aside0.mk (blk_below (g := gb767) (o := .cells #[.int .i64 t761, .slice Ao141 t762.length co141] 28 (0, 0)) (by (with_reducible repeat (first | refine blk_drewN ?_ _ | refine blk_drew ?_ | refine blk_alloc ?_ _)); exact BK767.out) hb); have n9_ := Aside0.mk (below_step (by repeat (first | (with_reducible first | exact HB.out | apply below_alloc | apply pw_below_drewN | apply below_drew1 | refine below_set ?_ GE720.out | refine below_set ?_ GE732.out | refine below_set ?_ GE737.out | refine below_set ?_ GE744.out | refine below_set ?_ GE767.out) | exact HB.out)) hb); clear HO_733001; clear HO_738001; clear HO_745001; clear HO_768001; clear BK720; clear BK732; clear BK737; clear BK744; clear BK767; clear HB; have HO_733001 := n0_; have HO_738001 := n1_; have HO_745001 := n2_; have HO_768001 := n3_; have BK720 := n4_; have BK732 := n5_; have BK737 := n6_; have BK744 := n7_; have BK767 := n8_; have HB := n9_; clear n0_ n1_ n2_ n3_ n4_ n5_ n6_ n7_ n8_ n9_; (try clear hb); (try clear hb2); (try clear hk); (try clear hi)))
                                go_ret
                                exact ⟨by first | rfl | (simp [errW_none, errW_some] <;> rfl) | (simp [*, errW_none, errW_some] <;> rfl), by repeat (first | (with_reducible first | exact HB.out | apply below_alloc | apply pw_below_drewN | apply below_drew1 | refine below_set ?_ GE720.out | refine below_set ?_ GE732.out | refine below_set ?_ GE737.out | refine below_set ?_ GE744.out | refine below_set ?_ GE767.out) | exact HB.out)⟩
                    · rw [if_neg c118] at H
                      have c118b0 : (t756 == t754) = false := beq_eq_false_iff_ne.mpr c118
                      have c118b1 : (t756 != t754) = true := bne_iff_ne.mpr c118
                      obtain rfl := Option.some.inj H
                      have hnb197 := NB744_720.out
                      have hnc197 := NB720_744.out
                      have hnb198 := NB744_732.out
                      have hnc198 := NB732_744.out
                      have hnb199 := NB744_737.out
                      have hnc199 := NB737_744.out
                      have hcz200_0 : wc.cell? ⟨gb744, 0, none⟩ = some (.int .i64 t738) := (blk_cell BK744.out 0).trans rfl
                      have hcz200_1 : wc.cell? ⟨gb744, 1, none⟩ = some (.slice Ao36 t739.length co36) := (blk_cell BK744.out 1).trans rfl
                      have hfz200_0 := blk_frozen BK744.out 0
                      have hfz200_1 := blk_frozen BK744.out 1
                      go_wp2_with (first | ((with_reducible refine gate_callee (f := 22) rfl ?_); refine goesL_ (some 79) rfl rfl Try.func22 (by kernel_rfl) rfl #[.agg #[.int .i64 t738, .slice Ao36 t739.length co36], .int .i64 1] rfl (by (try simp only [List.map_toArray, List.map_cons, List.map_nil]); first | done | rfl | (simp only [List.length_drop, List.length_take]; rfl)) ?_; (with_reducible refine (laws_markMatrix.calls kj68 t738 (fun k_ => some k_ = (.slice Ao36 t739.length co36 : Value).ownBlock) (.slice Ao36 t739.length co36) t739 1 t754 t755 w _ ?side1 ?side2 A108.out).mono ?_); (case side1 => repeat (first | (with_reducible first | exact HB.out | apply below_alloc | apply pw_below_drewN | apply below_drew1 | refine below_set ?_ GE720.out | refine below_set ?_ GE732.out | refine below_set ?_ GE737.out | refine below_set ?_ GE744.out) | exact HB.out)); (case side2 => exact Kd.R_tight rfl HO_745001.out); rintro e w201 ⟨rfl, hy0, hb, hkp⟩; refine ⟨_, rfl, ?_⟩; have n0_ := Aside0.mk (Kd.R_mono (ok' := fun k_ => some k_ ≠ (.slice Ao29 t752.length co29 : Value).ownBlock ∧ some k_ ≠ (.slice Ao36 t739.length co36 : Value).ownBlock) (Kd.R_keptB (HO_733001.out) hkp (fun k_ hk_ hs_ => (hk_.2) hs_)) (fun k_ hk_ => ⟨hk_.1.1, hk_.1.2⟩)); have n1_ := Aside0.mk (Kd.R_mono (ok' := fun k_ => some k_ ≠ (.slice Ao22 t727.length co22 : Value).ownBlock ∧ some k_ ≠ (.slice Ao36 t739.length co36 : Value).ownBlock) (Kd.R_keptB (HO_738001.out) hkp (fun k_ hk_ hs_ => (hk_.2) hs_)) (fun k_ hk_ => ⟨hk_.1.1, hk_.1.2⟩)); have n2_ := Aside0.mk (Kd.R_reok rfl hy0 (fun k_ e_ => HO_745001.out.1 k_ e_)); have n3_ := Aside0.mk (blk_kept (by (with_reducible repeat (first | refine blk_drewN ?_ _ | refine blk_drew ?_ | refine blk_alloc ?_ _)); exact BK720.out) hkp (fun hs_ => (fun e_ => (Kd.R_ne HO_745001.out BK720.out (by decide)) e_) hs_)); have n4_ := Aside0.mk (blk_kept (by (with_reducible repeat (first | refine blk_drewN ?_ _ | refine blk_drew ?_ | refine blk_alloc ?_ _)); exact BK732.out) hkp (fun hs_ => (fun e_ => (Kd.R_ne HO_745001.out BK732.out (by decide)) e_) hs_)); have n5_ := Aside0.mk (blk_kept (by (with_reducible repeat (first | refine blk_drewN ?_ _ | refine blk_drew ?_ | refine blk_alloc ?_ _)); exact BK737.out) hkp (fun hs_ => (fun e_ => (Kd.R_ne HO_745001.out BK737.out (by decide)) e_) hs_)); have n6_ := Aside0.mk (blk_kept (by (with_reducible repeat (first | refine blk_drewN ?_ _ | refine blk_drew ?_ | refine blk_alloc ?_ _)); exact BK744.out) hkp (fun hs_ => (fun e_ => (Kd.R_ne HO_745001.out BK744.out (by decide)) e_) hs_)); have n7_ := Aside0.mk (hb); clear HO_733001; clear HO_738001; clear HO_745001; clear BK720; clear BK732; clear BK737; clear BK744; clear HB; have HO_733001 := n0_; have HO_738001 := n1_; have HO_745001 := n2_; have BK720 := n3_; have BK732 := n4_; have BK737 := n5_; have BK744 := n6_; have HB := n7_; clear n0_ n1_ n2_ n3_ n4_ n5_ n6_ n7_; (try clear hb); (try clear hkp); (try clear hy0); have hcz202_0 : w201.cell? ⟨gb744, 0, none⟩ = some (.int .i64 t738) := (blk_cell BK744.out 0).trans rfl; have hcz202_1 : w201.cell? ⟨gb744, 1, none⟩ = some (.slice Ao36 t739.length co36) := (blk_cell BK744.out 1).trans rfl; have hfz202_0 := blk_frozen BK744.out 0; have hfz202_1 := blk_frozen BK744.out 1) | ((with_reducible refine gate_callee (f := 23) rfl ?_); refine goesL_ (some 82) rfl rfl Try.func23 (by kernel_rfl) rfl #[.agg #[.int .i64 t738, .slice Ao36 t755.length co36], .int .i64 1] rfl (by (try simp only [List.map_toArray, List.map_cons, List.map_nil]); first | done | (rw [show t755.length = t739.length from (Kd.R_reads' HO_745001.out).1.symm] <;> rfl) | rfl | (simp only [List.length_drop, List.length_take]; rfl)) ?_; (with_reducible refine (laws_heldMatrix.calls kj68 t738 _ _ t755 1 t756 _ ?side1 ?side2 A109.out).mono ?_); (case side1 => repeat (first | exact (Kd.R_reads' HO_745001.out).2.2 | (with_reducible refine Kd.C_alloc ?_ _) | (with_reducible refine Kd.C_drewN ?_ _) | (with_reducible refine Kd.C_drew ?_))); (case side2 => rw [show t755.length = t739.length from (Kd.R_reads' HO_745001.out).1.symm]; exact (Kd.R_reads' HO_745001.out).2.1); rintro e w203 ⟨rfl, hb⟩; refine ⟨_, rfl, ?_⟩; have n0_ := Aside0.mk (Kd.R_below (by (with_reducible repeat (first | apply Kd.R_alloc | apply Kd.R_drewN | apply Kd.R_drew)); exact HO_733001.out) hb); have n1_ := Aside0.mk (Kd.R_below (by (with_reducible repeat (first | apply Kd.R_alloc | apply Kd.R_drewN | apply Kd.R_drew)); exact HO_738001.out) hb); have n2_ := Aside0.mk (Kd.R_below (by (with_reducible repeat (first | apply Kd.R_alloc | apply Kd.R_drewN | apply Kd.R_drew)); exact HO_745001.out) hb); have n3_ := Aside0.mk (blk_below (g := gb720) (o := .cells #[.int .i64 a0_0, .slice A0_1 l0_1.length c0_1] 26 (0, 0)) (by (with_reducible repeat (first | refine blk_drewN ?_ _ | refine blk_drew ?_ | refine blk_alloc ?_ _)); exact BK720.out) hb); have n4_ := Aside0.mk (blk_below (g := gb732) (o := .cells #[.int .i64 t726, .slice Ao22 t727.length co22] 28 (0, 0)) (by (with_reducible repeat (first | refine blk_drewN ?_ _ | refine blk_drew ?_ | refine blk_alloc ?_ _)); exact BK732.out) hb); have n5_ := Aside0.mk (blk_below (g := gb737) (o := .cells #[.int .i64 t733, .slice Ao29 t752.length co29] 28 (0, 0)) (by (with_reducible repeat (first | refine blk_drewN ?_ _ | refine blk_drew ?_ | refine blk_alloc ?_ _)); exact BK737.out) hb); have n6_ := Aside0.mk (blk_below (g := gb744) (o := .cells #[.int .i64 t738, .slice Ao36 t739.length co36] 28 (0, 0)) (by (with_reducible repeat (first | refine blk_drewN ?_ _ | refine blk_drew ?_ | refine blk_alloc ?_ _)); exact BK744.out) hb); have n7_ := Aside0.mk (below_step (by repeat (first | (with_reducible first | exact HB.out | apply below_alloc | apply pw_below_drewN | apply below_drew1 | refine below_set ?_ GE720.out | refine below_set ?_ GE732.out | refine below_set ?_ GE737.out | refine below_set ?_ GE744.out) | exact HB.out)) hb); clear HO_733001; clear HO_738001; clear HO_745001; clear BK720; clear BK732; clear BK737; clear BK744; clear HB; have HO_733001 := n0_; have HO_738001 := n1_; have HO_745001 := n2_; have BK720 := n3_; have BK732 := n4_; have BK737 := n5_; have BK744 := n6_; have HB := n7_; clear n0_ n1_ n2_ n3_ n4_ n5_ n6_ n7_; (try clear hb); (try clear hb2); (try clear hk); (try clear hi)))
                      go_ret
                      exact ⟨by first | rfl | (simp [errW_none, errW_some] <;> rfl) | (simp [*, errW_none, errW_some] <;> rfl), by repeat (first | (with_reducible first | exact HB.out | apply below_alloc | apply pw_below_drewN | apply below_drew1 | refine below_set ?_ GE720.out | refine below_set ?_ GE732.out | refine below_set ?_ GE737.out | refine below_set ?_ GE744.out) | exact HB.out)⟩
          · replace c67 := Bool.eq_false_iff.mpr c67
            subst c67
            have H1 : (some false) = some r := by rw [if_neg (show ¬ (false = true) by decide)] at H; exact H
            clear H
            have H := H1
            clear H1
            obtain rfl := Option.some.inj H
            try go_wp2
            have n0_ := Aside0.mk (Kd.R_drew HO_733001.out)
            have n1_ := Aside0.mk (Kd.R_drew HO_738001.out)
            have n2_ := Aside0.mk (Kd.R_drew HO_745001.out)
            have n3_ := Aside0.mk (blk_drew BK720.out)
            have n4_ := Aside0.mk (blk_drew BK732.out)
            have n5_ := Aside0.mk (blk_drew BK737.out)
            have n6_ := Aside0.mk (blk_drew BK744.out)
            have n7_ := Aside0.mk (below_drew1 HB.out)
            clear HO_733001
            clear HO_738001
            clear HO_745001
            clear BK720
            clear BK732
            clear BK737
            clear BK744
            clear HB
            have HO_733001 := n0_
            have HO_738001 := n1_
            have HO_745001 := n2_
            have BK720 := n3_
            have BK732 := n4_
            have BK737 := n5_
            have BK744 := n6_
            have HB := n7_
            clear n0_ n1_ n2_ n3_ n4_ n5_ n6_ n7_
            refine start_ (n := 5) (S := fun w' => w'.cell? ⟨gb737, 0, none⟩ = some (.int .i64 t733) ∧ w'.cell? ⟨gb737, 1, none⟩ = some (.slice Ao29 t734.length co29) ∧ w'.cell? ⟨gb720, 0, none⟩ = some (.int .i64 a0_0) ∧ w'.cell? ⟨gb720, 1, none⟩ = some (.slice A0_1 l0_1.length c0_1)) (ds := []) #[false, false, false, false, false] (by kernel_rfl) rfl rfl ⟨(blk_cell BK737.out 0).trans rfl, (blk_cell BK737.out 1).trans rfl, (blk_cell BK720.out 0).trans rfl, (blk_cell BK720.out 1).trans rfl⟩ (fun hHeld => ?_)
            generalize wc.drew = w204 at HO_733001 HO_738001 HO_745001 BK720 BK732 BK737 BK744 HB hHeld ⊢
            refine take_ (i := 0) (N := some 51) (v := ?_) (a' := ?_) #[true, false, false, false, false] rfl rfl (by kernel_rfl) (fun _ _ _ h => h) (Or.inl ⟨by rfl, ?_⟩) hHeld ?_ ?_
            rotate_left
            · rintro w' ⟨s0, s1, s2, s3⟩
              go_simp
              with_reducible rfl
            rotate_left
            · simp only [Act.put, List.setIfInBounds_toArray, List.set_cons_zero, List.set_cons_succ, i64_w, i32_w]
              rfl
            refine take_ (i := 1) (N := some 52) (v := ?_) (a' := ?_) #[true, true, false, false, false] rfl rfl (by kernel_rfl) (fun _ _ _ h => h) (Or.inl ⟨by rfl, ?_⟩) hHeld ?_ ?_
            rotate_left
            · rintro w' ⟨s0, s1, s2, s3⟩
              go_simp
              with_reducible rfl
            rotate_left
            · simp only [Act.put, List.setIfInBounds_toArray, List.set_cons_zero, List.set_cons_succ, i64_w, i32_w]
              rfl
            refine one_ (i := 2) (N := some 53) #[true, true, true, false, false] rfl rfl (by kernel_rfl) (by decide) (fun K hK => ?_)
            refine goes_ Try.func19 (by kernel_rfl) rfl #[.agg #[.int .i64 a0_0, .slice A0_1 l0_1.length c0_1]] (by rfl) rfl rfl (by (try simp only [List.map_toArray, List.map_cons, List.map_nil]); first | done | rfl | (simp only [List.length_drop, List.length_take]; rfl)) ?_
            with_reducible refine (laws_toMatrix.calls kj10 a0_0 _ _ l0_1 t746 t747 _ ?side1 ?side2 A65.out).mono ?_
            (case side1 => repeat (first | exact (Kd.C_below HR0_1.out HB.out) | (with_reducible refine Kd.C_alloc ?_ _) | (with_reducible refine Kd.C_drewN ?_ _) | (with_reducible refine Kd.C_drew ?_)))
            (case side2 => exact HC0_1.out)
            rintro e w205 ⟨v748, rfl, ho0, hb⟩
            refine ⟨_, rfl, ?_⟩
            have n0_ := Aside0.mk (Kd.R_elder' (by (with_reducible repeat (first | apply Kd.R_alloc | apply Kd.R_drewN | apply Kd.R_drew)); exact HO_733001.out) (Kd.R_base ho0) hb)
            have n1_ := Aside0.mk (Kd.R_elder' (by (with_reducible repeat (first | apply Kd.R_alloc | apply Kd.R_drewN | apply Kd.R_drew)); exact HO_738001.out) (Kd.R_base ho0) hb)
            have n2_ := Aside0.mk (Kd.R_elder' (by (with_reducible repeat (first | apply Kd.R_alloc | apply Kd.R_drewN | apply Kd.R_drew)); exact HO_745001.out) (Kd.R_base ho0) hb)
            have n3_ := Aside0.mk (Kd.R_lower (Kd.R_new' (Kd.R_new' (Kd.R_new' ho0 (Kd.R_lt (by (with_reducible repeat (first | apply Kd.R_alloc | apply Kd.R_drewN | apply Kd.R_drew)); exact HO_733001.out))) (Kd.R_lt (by (with_reducible repeat (first | apply Kd.R_alloc | apply Kd.R_drewN | apply Kd.R_drew)); exact HO_738001.out))) (Kd.R_lt (by (with_reducible repeat (first | apply Kd.R_alloc | apply Kd.R_drewN | apply Kd.R_drew)); exact HO_745001.out))) (below_size (by repeat (first | (with_reducible first | exact HB.out | apply below_alloc | apply pw_below_drewN | apply below_drew1 | refine below_set ?_ GE720.out | refine below_set ?_ GE732.out | refine below_set ?_ GE737.out | refine below_set ?_ GE744.out) | exact HB.out))))
            have n4_ := Aside0.mk (blk_below (g := gb720) (o := .cells #[.int .i64 a0_0, .slice A0_1 l0_1.length c0_1] 26 (0, 0)) (by (with_reducible repeat (first | refine blk_drewN ?_ _ | refine blk_drew ?_ | refine blk_alloc ?_ _)); exact BK720.out) hb)
            have n5_ := Aside0.mk (blk_below (g := gb732) (o := .cells #[.int .i64 t726, .slice Ao22 t727.length co22] 28 (0, 0)) (by (with_reducible repeat (first | refine blk_drewN ?_ _ | refine blk_drew ?_ | refine blk_alloc ?_ _)); exact BK732.out) hb)
            have n6_ := Aside0.mk (blk_below (g := gb737) (o := .cells #[.int .i64 t733, .slice Ao29 t734.length co29] 28 (0, 0)) (by (with_reducible repeat (first | refine blk_drewN ?_ _ | refine blk_drew ?_ | refine blk_alloc ?_ _)); exact BK737.out) hb)
            have n7_ := Aside0.mk (blk_below (g := gb744) (o := .cells #[.int .i64 t738, .slice Ao36 t739.length co36] 28 (0, 0)) (by (with_reducible repeat (first | refine blk_drewN ?_ _ | refine blk_drew ?_ | refine blk_alloc ?_ _)); exact BK744.out) hb)
            have n8_ := Aside0.mk (below_step (by repeat (first | (with_reducible first | exact HB.out | apply below_alloc | apply pw_below_drewN | apply below_drew1 | refine below_set ?_ GE720.out | refine below_set ?_ GE732.out | refine below_set ?_ GE737.out | refine below_set ?_ GE744.out) | exact HB.out)) hb)
            clear HO_733001
            clear HO_738001
            clear HO_745001
            clear BK720
            clear BK732
            clear BK737
            clear BK744
            clear HB
            have HO_733001 := n0_
            have HO_738001 := n1_
            have HO_745001 := n2_
            have HO749 := n3_
            have BK720 := n4_
            have BK732 := n5_
            have BK737 := n6_
            have BK744 := n7_
            have HB := n8_
            clear n0_ n1_ n2_ n3_ n4_ n5_ n6_ n7_ n8_
            (try clear hb)
            (try clear hb2)
            (try clear hk)
            (try clear hi)
            (try clear ho0)
            obtain ⟨Ao206, co206, eo206⟩ := Kd.R_slice HO749.out
            (first | subst eo206 | (injection eo206 with f1_ f2_ f3_; have f4_ := f1_.symm; have f5_ := f3_.symm; clear f1_ f2_ f3_; subst f4_; subst f5_))
            refine hK.out _ _ ⟨(blk_cell BK737.out 0).trans rfl, (blk_cell BK737.out 1).trans rfl, (blk_cell BK720.out 0).trans rfl, (blk_cell BK720.out 1).trans rfl⟩ (fun hHeld => ?_)
            clear hK K
            refine norm_ (a' := ?_) ?_ ?_
            rotate_left
            · show Act.put _ (some 53) _ = _
              simp only [Act.put, List.setIfInBounds_toArray, List.set_cons_zero, List.set_cons_succ, i64_w, i32_w]
              rfl
            refine one_ (i := 3) (N := some 54) #[true, true, true, true, false] rfl rfl (by kernel_rfl) (by decide) (fun K hK => ?_)
            refine goes_ Try.func21 (by kernel_rfl) rfl #[.agg #[.int .i64 t733, .slice Ao29 t734.length co29], .agg #[.int .i64 t746, .slice Ao206 t747.length co206]] (by rfl) rfl rfl (by (try simp only [List.map_toArray, List.map_cons, List.map_nil]); first | done | rfl | (simp only [List.length_drop, List.length_take]; rfl)) ?_
            with_reducible refine (laws_eqMatrix.calls kj10 t733 _ _ t734 t746 _ _ t747 false _ ?side1 ?side2 ?side3 ?side4 A66.out).mono ?_
            (case side1 => repeat (first | exact (Kd.R_reads' HO_738001.out).2.2 | (with_reducible refine Kd.C_alloc ?_ _) | (with_reducible refine Kd.C_drewN ?_ _) | (with_reducible refine Kd.C_drew ?_)))
            (case side2 => exact (Kd.R_reads' HO_738001.out).2.1)
            (case side3 => repeat (first | exact (Kd.R_reads' HO749.out).2.2 | (with_reducible refine Kd.C_alloc ?_ _) | (with_reducible refine Kd.C_drewN ?_ _) | (with_reducible refine Kd.C_drew ?_)))
            (case side4 => exact (Kd.R_reads' HO749.out).2.1)
            rintro e w207 ⟨rfl, hb⟩
            refine ⟨_, rfl, ?_⟩
            have n0_ := Aside0.mk (Kd.R_below (by (with_reducible repeat (first | apply Kd.R_alloc | apply Kd.R_drewN | apply Kd.R_drew)); exact HO_733001.out) hb)
            have n1_ := Aside0.mk (Kd.R_below (by (with_reducible repeat (first | apply Kd.R_alloc | apply Kd.R_drewN | apply Kd.R_drew)); exact HO_738001.out) hb)
            have n2_ := Aside0.mk (Kd.R_below (by (with_reducible repeat (first | apply Kd.R_alloc | apply Kd.R_drewN | apply Kd.R_drew)); exact HO_745001.out) hb)
            have n3_ := Aside0.mk (Kd.R_below (by (with_reducible repeat (first | apply Kd.R_alloc | apply Kd.R_drewN | apply Kd.R_drew)); exact HO749.out) hb)
            have n4_ := Aside0.mk (blk_below (g := gb720) (o := .cells #[.int .i64 a0_0, .slice A0_1 l0_1.length c0_1] 26 (0, 0)) (by (with_reducible repeat (first | refine blk_drewN ?_ _ | refine blk_drew ?_ | refine blk_alloc ?_ _)); exact BK720.out) hb)
            have n5_ := Aside0.mk (blk_below (g := gb732) (o := .cells #[.int .i64 t726, .slice Ao22 t727.length co22] 28 (0, 0)) (by (with_reducible repeat (first | refine blk_drewN ?_ _ | refine blk_drew ?_ | refine blk_alloc ?_ _)); exact BK732.out) hb)
            have n6_ := Aside0.mk (blk_below (g := gb737) (o := .cells #[.int .i64 t733, .slice Ao29 t734.length co29] 28 (0, 0)) (by (with_reducible repeat (first | refine blk_drewN ?_ _ | refine blk_drew ?_ | refine blk_alloc ?_ _)); exact BK737.out) hb)
            have n7_ := Aside0.mk (blk_below (g := gb744) (o := .cells #[.int .i64 t738, .slice Ao36 t739.length co36] 28 (0, 0)) (by (with_reducible repeat (first | refine blk_drewN ?_ _ | refine blk_drew ?_ | refine blk_alloc ?_ _)); exact BK744.out) hb)
            have n8_ := Aside0.mk (below_step (by repeat (first | (with_reducible first | exact HB.out | apply below_alloc | apply pw_below_drewN | apply below_drew1 | refine below_set ?_ GE720.out | refine below_set ?_ GE732.out | refine below_set ?_ GE737.out | refine below_set ?_ GE744.out) | exact HB.out)) hb)
            clear HO_733001
            clear HO_738001
            clear HO_745001
            clear HO749
            clear BK720
            clear BK732
            clear BK737
            clear BK744
            clear HB
            have HO_733001 := n0_
            have HO_738001 := n1_
            have HO_745001 := n2_
            have HO749 := n3_
            have BK720 := n4_
            have BK732 := n5_
            have BK737 := n6_
            have BK744 := n7_
            have HB := n8_
            clear n0_ n1_ n2_ n3_ n4_ n5_ n6_ n7_ n8_
            (try clear hb)
            (try clear hb2)
            (try clear hk)
            (try clear hi)
            refine hK.out _ _ ⟨(blk_cell BK737.out 0).trans rfl, (blk_cell BK737.out 1).trans rfl, (blk_cell BK720.out 0).trans rfl, (blk_cell BK720.out 1).trans rfl⟩ (fun hHeld => ?_)
            clear hK K
            refine norm_ (a' := ?_) ?_ ?_
            rotate_left
            · show Act.put _ (some 54) _ = _
              simp only [Act.put, List.setIfInBounds_toArray, List.set_cons_zero, List.set_cons_succ, i64_w, i32_w]
              rfl
            refine pure_ (i := 4) (N := some 55) (v := ?_) (a' := ?_) #[true, true, true, true, true] rfl rfl (by kernel_rfl) (fun _ _ _ h => h) (Or.inl ⟨by rfl, ?_⟩) ?_ ?_
            rotate_left
            · intro w'
              go_simp
              with_reducible rfl
            rotate_left
            · simp only [Act.put, List.setIfInBounds_toArray, List.set_cons_zero, List.set_cons_succ, i64_w, i32_w]
              rfl
            refine done_ (by kernel_rfl) ?_
            try go_wp2
            go_ret
            exact ⟨by first | rfl | (simp [errW_none, errW_some] <;> rfl) | (simp [*, errW_none, errW_some] <;> rfl), by repeat (first | (with_reducible first | exact HB.out | apply below_alloc | apply pw_below_drewN | apply below_drew1 | refine below_set ?_ GE720.out | refine below_set ?_ GE732.out | refine below_set ?_ GE737.out | refine below_set ?_ GE744.out) | exact HB.out)⟩
def laws_FnExactIdempotentOf.Pure : Prop := ∀ (a0_0 : Int) (l0_1 : List Int), (Lit.int .i64 a0_0).wf = true → l0_1.length ≤ maxLen → (∀ x_ ∈ l0_1, (Lit.int .i64 x_).wf = true) → ∃ k, laws_FnExactIdempotentOf.f k a0_0 l0_1 = some true
end Go.Proofs.Ytengegdaiphfeaa.X
end
