import Derived.Test.YtengegdaiphfeaaKFnExactStabilise1
import Derived.Test.YtengegdaiphfeaaKFnExactStabilise2
import Derived.Test.YtengegdaiphfeaaKFnExactStabilise3
import Derived.Deep.Slices
import Derived.Deep.Fields
import Derived.ChangeSame
import Derived.Lib.SmallJoins
import Derived.ChangeSlices
section
namespace Go.Proofs.Ytengegdaiphfeaa.X
open Go.RowKit Go.Proofs.YtengegdaiphfeaaW.PrintWords Go.Proofs.YtengegdaiphfeaaW.PrintLast Go.Proofs.YtengegdaiphfeaaW.PrintMore
attribute [local go_sem] max2_int min2_int max_two min_two max_three min_three max_four min_four
set_option linter.unusedVariables false
set_option linter.unusedSimpArgs false
mutual
def laws_FnExactStabilise.j0 : Nat → Bool → Bool → Bool → Int → List Int → Int → List Int → Int → List Int → Int → List Int → Option (Bool)
  | 0, _, _, _, _, _, _, _, _, _, _, _ => none
  | k + 1, x5, x8, x40, x800000, x800001, x811000, x811001, x816000, x816001, x822000, x822001 => if x40 = true then (some false) else ((laws_toMatrix.f k x800000 x800001).bind fun bt823 => ((laws_eqMatrix.f k x816000 x816001 bt823.1 bt823.2).bind fun t827 => (if t827 = true then ((laws_markMatrix.f k x816000 x816001 1).bind fun bt828 => (if bt828.1 < 0 then (laws_FnExactStabilise.j1 k x5 true x800000 x800001 x811000 x811001 x822000 x822001) else ((laws_eqMatrix.f k x822000 x822001 x811000 x811001).bind fun t830 => (if t830 = true then (laws_FnExactStabilise.j1 k x5 (x8 != x5) x800000 x800001 x811000 x811001 x822000 x822001) else (laws_FnExactStabilise.j1 k x5 true x800000 x800001 x811000 x811001 x822000 x822001))))) else (some false))))
def laws_FnExactStabilise.j1 : Nat → Bool → Bool → Int → List Int → Int → List Int → Int → List Int → Option (Bool)
  | 0, _, _, _, _, _, _, _, _ => none
  | k + 1, x5, x61, x800000, x800001, x811000, x811001, x822000, x822001 => if x61 = true then (some false) else ((laws_markMatrix.f k x822000 x822001 1).bind fun bt831 => ((laws_heldMatrix.f k x822000 bt831.2 1).bind fun t833 => (if t833 < 0 then (some false) else (if t833 = bt831.1 then ((laws_toMatrix.f k x800000 x800001).bind fun bt834 => ((impl_Stabilise.f k bt834.1 bt834.2).bind fun bt838 => ((laws_eqMatrix.f k bt838.1 bt838.2.1 x811000 x811001).bind fun t844 => (if t844 = true then (laws_FnExactStabilise.j2 k bt831.1 (bt838.2.2 != x5) x822000 bt831.2) else (laws_FnExactStabilise.j2 k bt831.1 true x822000 bt831.2))))) else (some false)))))
def laws_FnExactStabilise.j2 : Nat → Int → Bool → Int → List Int → Option (Bool)
  | 0, _, _, _, _ => none
  | k + 1, x10, x87, x822000, x822001 => if x87 = true then (some false) else ((laws_heldMatrix.f k x822000 x822001 1).bind fun t845 => (if t845 < 0 then (some false) else (if t845 = x10 then (some true) else (some false))))
end
def laws_FnExactStabilise.f (k : Nat) (a0_0 : Int) (l0_1 : List Int) : Option (Bool) := (laws_szMatrix.f a0_0 l0_1 1048576).bind fun t800 => (if t800 < 0 then (some true) else ((laws_toMatrix.f k a0_0 l0_1).bind fun bt801 => ((spec_Stabilise.f k bt801.1 bt801.2).bind fun bt805 => ((laws_toMatrix.f k a0_0 l0_1).bind fun bt811 => ((impl_Stabilise.f k bt811.1 bt811.2).bind fun bt816 => ((laws_eqMatrix.f k bt816.1 bt816.2.1 bt805.1 bt805.2.1).bind fun t822 => (if t822 = true then (laws_FnExactStabilise.j0 k bt805.2.2 bt816.2.2 (bt816.2.2 != bt805.2.2) a0_0 l0_1 bt805.1 bt805.2.1 bt811.1 bt811.2 bt816.1 bt816.2.1) else (laws_FnExactStabilise.j0 k bt805.2.2 bt816.2.2 true a0_0 l0_1 bt805.1 bt805.2.1 bt811.1 bt811.2 bt816.1 bt816.2.1))))))))
theorem laws_FnExactStabilise.mono_l : ∀ k, (∀ y0 y1 y2 y3 y4 y5 y6 y7 y8 y9 y10, LeO (laws_FnExactStabilise.j0 k y0 y1 y2 y3 y4 y5 y6 y7 y8 y9 y10) (laws_FnExactStabilise.j0 (k + 1) y0 y1 y2 y3 y4 y5 y6 y7 y8 y9 y10)) ∧ (∀ y0 y1 y2 y3 y4 y5 y6 y7, LeO (laws_FnExactStabilise.j1 k y0 y1 y2 y3 y4 y5 y6 y7) (laws_FnExactStabilise.j1 (k + 1) y0 y1 y2 y3 y4 y5 y6 y7)) ∧ (∀ y0 y1 y2 y3, LeO (laws_FnExactStabilise.j2 k y0 y1 y2 y3) (laws_FnExactStabilise.j2 (k + 1) y0 y1 y2 y3))
  | 0 => ⟨fun _ _ _ _ _ _ _ _ _ _ _ r h => by simp [laws_FnExactStabilise.j0] at h, fun _ _ _ _ _ _ _ _ r h => by simp [laws_FnExactStabilise.j1] at h, fun _ _ _ _ r h => by simp [laws_FnExactStabilise.j2] at h⟩
  | k + 1 => by
    obtain ⟨ih0, ih1, ih2⟩ := laws_FnExactStabilise.mono_l k
    refine ⟨?_, ?_, ?_⟩
    · intro y0 y1 y2 y3 y4 y5 y6 y7 y8 y9 y10
      unfold laws_FnExactStabilise.j0
      repeat' first
      | (with_reducible exact ih0 _ _ _ _ _ _ _ _ _ _ _)
      | (with_reducible exact ih1 _ _ _ _ _ _ _ _)
      | (with_reducible exact ih2 _ _ _ _)
      | (with_reducible exact impl_Stabilise.mono _ _ _)
      | (with_reducible exact laws_eqMatrix.mono _ _ _ _ _)
      | (with_reducible exact laws_heldMatrix.mono _ _ _ _)
      | (with_reducible exact laws_markMatrix.mono _ _ _ _)
      | (with_reducible exact laws_toMatrix.mono _ _ _)
      | (with_reducible exact spec_Stabilise.mono _ _ _)
      | (with_reducible exact LeO.refl _)
      | (with_reducible exact LeO.none _)
      | (with_reducible refine LeO.ite ?_ ?_)
      | (with_reducible refine LeO.bind ?_ (fun _ => ?_))
      | exact ih0 _ _ _ _ _ _ _ _ _ _ _
      | exact ih1 _ _ _ _ _ _ _ _
      | exact ih2 _ _ _ _
      | exact impl_Stabilise.mono _ _ _
      | exact laws_eqMatrix.mono _ _ _ _ _
      | exact laws_heldMatrix.mono _ _ _ _
      | exact laws_markMatrix.mono _ _ _ _
      | exact laws_toMatrix.mono _ _ _
      | exact spec_Stabilise.mono _ _ _
      | exact LeO.none _
      | refine LeO.ite ?_ ?_
      | refine LeO.bind ?_ (fun _ => ?_)
    · intro y0 y1 y2 y3 y4 y5 y6 y7
      unfold laws_FnExactStabilise.j1
      repeat' first
      | (with_reducible exact ih0 _ _ _ _ _ _ _ _ _ _ _)
      | (with_reducible exact ih1 _ _ _ _ _ _ _ _)
      | (with_reducible exact ih2 _ _ _ _)
      | (with_reducible exact impl_Stabilise.mono _ _ _)
      | (with_reducible exact laws_eqMatrix.mono _ _ _ _ _)
      | (with_reducible exact laws_heldMatrix.mono _ _ _ _)
      | (with_reducible exact laws_markMatrix.mono _ _ _ _)
      | (with_reducible exact laws_toMatrix.mono _ _ _)
      | (with_reducible exact spec_Stabilise.mono _ _ _)
      | (with_reducible exact LeO.refl _)
      | (with_reducible exact LeO.none _)
      | (with_reducible refine LeO.ite ?_ ?_)
      | (with_reducible refine LeO.bind ?_ (fun _ => ?_))
      | exact ih0 _ _ _ _ _ _ _ _ _ _ _
      | exact ih1 _ _ _ _ _ _ _ _
      | exact ih2 _ _ _ _
      | exact impl_Stabilise.mono _ _ _
      | exact laws_eqMatrix.mono _ _ _ _ _
      | exact laws_heldMatrix.mono _ _ _ _
      | exact laws_markMatrix.mono _ _ _ _
      | exact laws_toMatrix.mono _ _ _
      | exact spec_Stabilise.mono _ _ _
      | exact LeO.none _
      | refine LeO.ite ?_ ?_
      | refine LeO.bind ?_ (fun _ => ?_)
    · intro y0 y1 y2 y3
      unfold laws_FnExactStabilise.j2
      repeat' first
      | (with_reducible exact ih0 _ _ _ _ _ _ _ _ _ _ _)
      | (with_reducible exact ih1 _ _ _ _ _ _ _ _)
      | (with_reducible exact ih2 _ _ _ _)
      | (with_reducible exact impl_Stabilise.mono _ _ _)
      | (with_reducible exact laws_eqMatrix.mono _ _ _ _ _)
      | (with_reducible exact laws_heldMatrix.mono _ _ _ _)
      | (with_reducible exact laws_markMatrix.mono _ _ _ _)
      | (with_reducible exact laws_toMatrix.mono _ _ _)
      | (with_reducible exact spec_Stabilise.mono _ _ _)
      | (with_reducible exact LeO.refl _)
      | (with_reducible exact LeO.none _)
      | (with_reducible refine LeO.ite ?_ ?_)
      | (with_reducible refine LeO.bind ?_ (fun _ => ?_))
      | exact ih0 _ _ _ _ _ _ _ _ _ _ _
      | exact ih1 _ _ _ _ _ _ _ _
      | exact ih2 _ _ _ _
      | exact impl_Stabilise.mono _ _ _
      | exact laws_eqMatrix.mono _ _ _ _ _
      | exact laws_heldMatrix.mono _ _ _ _
      | exact laws_markMatrix.mono _ _ _ _
      | exact laws_toMatrix.mono _ _ _
      | exact spec_Stabilise.mono _ _ _
      | exact LeO.none _
      | refine LeO.ite ?_ ?_
      | refine LeO.bind ?_ (fun _ => ?_)
theorem laws_FnExactStabilise.mono : ∀ a0 a1 k, LeO (laws_FnExactStabilise.f k a0 a1) (laws_FnExactStabilise.f (k + 1) a0 a1) := by
  intro a0 a1 k
  obtain ⟨ih0, ih1, ih2⟩ := laws_FnExactStabilise.mono_l k
  unfold laws_FnExactStabilise.f
  repeat' first
      | (with_reducible exact ih0 _ _ _ _ _ _ _ _ _ _ _)
      | (with_reducible exact ih1 _ _ _ _ _ _ _ _)
      | (with_reducible exact ih2 _ _ _ _)
      | (with_reducible exact impl_Stabilise.mono _ _ _)
      | (with_reducible exact laws_eqMatrix.mono _ _ _ _ _)
      | (with_reducible exact laws_heldMatrix.mono _ _ _ _)
      | (with_reducible exact laws_markMatrix.mono _ _ _ _)
      | (with_reducible exact laws_toMatrix.mono _ _ _)
      | (with_reducible exact spec_Stabilise.mono _ _ _)
      | (with_reducible exact LeO.refl _)
      | (with_reducible exact LeO.none _)
      | (with_reducible refine LeO.ite ?_ ?_)
      | (with_reducible refine LeO.bind ?_ (fun _ => ?_))
      | exact ih0 _ _ _ _ _ _ _ _ _ _ _
      | exact ih1 _ _ _ _ _ _ _ _
      | exact ih2 _ _ _ _
      | exact impl_Stabilise.mono _ _ _
      | exact laws_eqMatrix.mono _ _ _ _ _
      | exact laws_heldMatrix.mono _ _ _ _
      | exact laws_markMatrix.mono _ _ _ _
      | exact laws_toMatrix.mono _ _ _
      | exact spec_Stabilise.mono _ _ _
      | exact LeO.none _
      | refine LeO.ite ?_ ?_
      | refine LeO.bind ?_ (fun _ => ?_)
set_option maxHeartbeats 8000000 in
set_option maxRecDepth 100000 in
theorem laws_FnExactStabilise.calls (k : Nat) (a0_0 : Int) (A0_1 : Option Addr) (c0_1 : Nat) (l0_1 : List Int) (r : Bool) (w : World) (hr0_1 : Kd.C (Kd.int .i64) w A0_1 l0_1.length l0_1) (hc0_1 : l0_1.length ≤ c0_1) (h : laws_FnExactStabilise.f k a0_0 l0_1 = some r) :
    Calls Try.prog 11 #[.agg #[.int .i64 a0_0, .slice A0_1 l0_1.length c0_1]] w fun e w' => e = .returned (.bool r) ∧ Below w.heap.size w w' := by
  have hu26 := Try.underlying26
  have hu28 := Try.underlying28
  have HR0_1 := Aside0.mk hr0_1
  have HC0_1 := Aside0.mk hc0_1
  clear hr0_1 hc0_1
  have HB := Aside0.mk (Below.refl w.heap.size w)
  have H : ((laws_szMatrix.f a0_0 l0_1 1048576).bind fun t800 => (if t800 < 0 then (some true) else ((laws_toMatrix.f k a0_0 l0_1).bind fun bt801 => ((spec_Stabilise.f k bt801.1 bt801.2).bind fun bt805 => ((laws_toMatrix.f k a0_0 l0_1).bind fun bt811 => ((impl_Stabilise.f k bt811.1 bt811.2).bind fun bt816 => ((laws_eqMatrix.f k bt816.1 bt816.2.1 bt805.1 bt805.2.1).bind fun t822 => (if t822 = true then (laws_FnExactStabilise.j0 k bt805.2.2 bt816.2.2 (bt816.2.2 != bt805.2.2) a0_0 l0_1 bt805.1 bt805.2.1 bt811.1 bt811.2 bt816.1 bt816.2.1) else (laws_FnExactStabilise.j0 k bt805.2.2 bt816.2.2 true a0_0 l0_1 bt805.1 bt805.2.1 bt811.1 bt811.2 bt816.1 bt816.2.1))))))))) = some r := h
  clear h
  replace H := Option.bind_eq_some_iff.mp H
  obtain ⟨t800, A20, H⟩ := H
  replace H : (if t800 < 0 then (some true) else ((laws_toMatrix.f k a0_0 l0_1).bind fun bt801 => ((spec_Stabilise.f k bt801.1 bt801.2).bind fun bt805 => ((laws_toMatrix.f k a0_0 l0_1).bind fun bt811 => ((impl_Stabilise.f k bt811.1 bt811.2).bind fun bt816 => ((laws_eqMatrix.f k bt816.1 bt816.2.1 bt805.1 bt805.2.1).bind fun t822 => (if t822 = true then (laws_FnExactStabilise.j0 k bt805.2.2 bt816.2.2 (bt816.2.2 != bt805.2.2) a0_0 l0_1 bt805.1 bt805.2.1 bt811.1 bt811.2 bt816.1 bt816.2.1) else (laws_FnExactStabilise.j0 k bt805.2.2 bt816.2.2 true a0_0 l0_1 bt805.1 bt805.2.1 bt811.1 bt811.2 bt816.1 bt816.2.1)))))))) = some r := H
  have A2 := Aside0.mk A20
  clear A20
  by_cases c3 : t800 < 0
  · rw [if_pos c3] at H
    have c3b0 : decide (t800 < 0) = true := decide_eq_true c3
    clear c3
    obtain rfl := Option.some.inj H
    go_enter Try.func11, Try.ntmps11
    go_wp2_with (first | ((with_reducible refine gate_dst (N := 1) rfl ?_); refine box_event ?hg (N := 1) ?hd (cs := #[.int .i64 a0_0, .slice A0_1 l0_1.length c0_1]) (t := 26) ?hr ?_; (case hd => rfl); (case hg => rfl); (case hr => first | (go_simp; done) | (go_simp; rfl)); intro gb799 hg w4 hbox hb; have n0_ := Aside0.mk (below_step (by repeat (first | (with_reducible first | exact HB.out | apply below_alloc | apply pw_below_drewN | apply below_drew1) | exact HB.out)) hb); have n1_ := Aside0.mk (hbox); have n2_ := Aside0.mk ((by rw [hg]; exact (below_size (by repeat (first | (with_reducible first | exact HB.out | apply below_alloc | apply pw_below_drewN | apply below_drew1) | exact HB.out))) : w.heap.size ≤ gb799)); have n3_ := Aside0.mk ((by rw [hg]; exact (below_size (by repeat (first | (with_reducible first | exact HB.out | apply below_alloc | apply pw_below_drewN | apply below_drew1) | exact HB.out))) : w.heap.size ≤ gb799)); clear HB; have HB := n0_; have BK799 := n1_; have GW799 := n2_; have GE799 := n3_; clear n0_ n1_ n2_ n3_; clear hb hbox hg; have hcz5_0 : w4.cell? ⟨gb799, 0, none⟩ = some (.int .i64 a0_0) := (blk_cell BK799.out 0).trans rfl; have hcz5_1 : w4.cell? ⟨gb799, 1, none⟩ = some (.slice A0_1 l0_1.length c0_1) := (blk_cell BK799.out 1).trans rfl; have hfz5_0 := blk_frozen BK799.out 0; have hfz5_1 := blk_frozen BK799.out 1) | ((with_reducible refine gate_callee (f := 17) rfl ?_); refine goesL_ (some 16) rfl rfl Try.func17 (by kernel_rfl) rfl #[.agg #[.int .i64 a0_0, .slice A0_1 l0_1.length c0_1], .int .i64 1048576] rfl (by (try simp only [List.map_toArray, List.map_cons, List.map_nil]); first | done | rfl | (simp only [List.length_drop, List.length_take]; rfl)) ?_; (with_reducible refine (laws_szMatrix.calls a0_0 _ _ l0_1 1048576 t800 _ ?side1 ?side2 A2.out).mono ?_); (case side1 => repeat (first | exact (Kd.C_below HR0_1.out HB.out) | (with_reducible refine Kd.C_alloc ?_ _) | (with_reducible refine Kd.C_drewN ?_ _) | (with_reducible refine Kd.C_drew ?_))); (case side2 => exact HC0_1.out); rintro e w6 ⟨rfl, hb⟩; refine ⟨_, rfl, ?_⟩; have n0_ := Aside0.mk (blk_below (g := gb799) (o := .cells #[.int .i64 a0_0, .slice A0_1 l0_1.length c0_1] 26 (0, 0)) (by (with_reducible repeat (first | refine blk_drewN ?_ _ | refine blk_drew ?_ | refine blk_alloc ?_ _)); exact BK799.out) hb); have n1_ := Aside0.mk (below_step (by repeat (first | (with_reducible first | exact HB.out | apply below_alloc | apply pw_below_drewN | apply below_drew1 | refine below_set ?_ GE799.out) | exact HB.out)) hb); clear BK799; clear HB; have BK799 := n0_; have HB := n1_; clear n0_ n1_; (try clear hb); (try clear hb2); (try clear hk); (try clear hi)))
    go_ret
    exact ⟨by first | rfl | (simp [errW_none, errW_some] <;> rfl) | (simp [*, errW_none, errW_some] <;> rfl), by repeat (first | (with_reducible first | exact HB.out | apply below_alloc | apply pw_below_drewN | apply below_drew1 | refine below_set ?_ GE799.out) | exact HB.out)⟩
  · rw [if_neg c3] at H
    have c3b0 : decide (t800 < 0) = false := decide_eq_false c3
    clear c3
    replace H := Option.bind_eq_some_iff.mp H
    obtain ⟨⟨t801, t802⟩, A70, H⟩ := H
    replace H : ((spec_Stabilise.f k t801 t802).bind fun bt805 => ((laws_toMatrix.f k a0_0 l0_1).bind fun bt811 => ((impl_Stabilise.f k bt811.1 bt811.2).bind fun bt816 => ((laws_eqMatrix.f k bt816.1 bt816.2.1 bt805.1 bt805.2.1).bind fun t822 => (if t822 = true then (laws_FnExactStabilise.j0 k bt805.2.2 bt816.2.2 (bt816.2.2 != bt805.2.2) a0_0 l0_1 bt805.1 bt805.2.1 bt811.1 bt811.2 bt816.1 bt816.2.1) else (laws_FnExactStabilise.j0 k bt805.2.2 bt816.2.2 true a0_0 l0_1 bt805.1 bt805.2.1 bt811.1 bt811.2 bt816.1 bt816.2.1)))))) = some r := H
    have A7 := Aside0.mk A70
    clear A70
    replace H := Option.bind_eq_some_iff.mp H
    obtain ⟨⟨t805, t806, t809⟩, A80, H⟩ := H
    replace H : ((laws_toMatrix.f k a0_0 l0_1).bind fun bt811 => ((impl_Stabilise.f k bt811.1 bt811.2).bind fun bt816 => ((laws_eqMatrix.f k bt816.1 bt816.2.1 t805 t806).bind fun t822 => (if t822 = true then (laws_FnExactStabilise.j0 k t809 bt816.2.2 (bt816.2.2 != t809) a0_0 l0_1 t805 t806 bt811.1 bt811.2 bt816.1 bt816.2.1) else (laws_FnExactStabilise.j0 k t809 bt816.2.2 true a0_0 l0_1 t805 t806 bt811.1 bt811.2 bt816.1 bt816.2.1))))) = some r := H
    have A8 := Aside0.mk A80
    clear A80
    replace H := Option.bind_eq_some_iff.mp H
    obtain ⟨⟨t811, t812⟩, A90, H⟩ := H
    replace H : ((impl_Stabilise.f k t811 t812).bind fun bt816 => ((laws_eqMatrix.f k bt816.1 bt816.2.1 t805 t806).bind fun t822 => (if t822 = true then (laws_FnExactStabilise.j0 k t809 bt816.2.2 (bt816.2.2 != t809) a0_0 l0_1 t805 t806 t811 t812 bt816.1 bt816.2.1) else (laws_FnExactStabilise.j0 k t809 bt816.2.2 true a0_0 l0_1 t805 t806 t811 t812 bt816.1 bt816.2.1)))) = some r := H
    have A9 := Aside0.mk A90
    clear A90
    replace H := Option.bind_eq_some_iff.mp H
    obtain ⟨⟨t816, t817, t820⟩, A100, H⟩ := H
    replace H : ((laws_eqMatrix.f k t816 t817 t805 t806).bind fun t822 => (if t822 = true then (laws_FnExactStabilise.j0 k t809 t820 (t820 != t809) a0_0 l0_1 t805 t806 t811 t812 t816 t817) else (laws_FnExactStabilise.j0 k t809 t820 true a0_0 l0_1 t805 t806 t811 t812 t816 t817))) = some r := H
    have A10 := Aside0.mk A100
    clear A100
    have HC11 := Aside0.mk H
    clear H
    go_enter Try.func11, Try.ntmps11
    go_upto_region 8 with (first | ((with_reducible refine gate_dst (N := 1) rfl ?_); refine box_event ?hg (N := 1) ?hd (cs := #[.int .i64 a0_0, .slice A0_1 l0_1.length c0_1]) (t := 26) ?hr ?_; (case hd => rfl); (case hg => rfl); (case hr => first | (go_simp; done) | (go_simp; rfl)); intro gb799 hg w12 hbox hb; have n0_ := Aside0.mk (below_step (by repeat (first | (with_reducible first | exact HB.out | apply below_alloc | apply pw_below_drewN | apply below_drew1) | exact HB.out)) hb); have n1_ := Aside0.mk (hbox); have n2_ := Aside0.mk ((by rw [hg]; exact (below_size (by repeat (first | (with_reducible first | exact HB.out | apply below_alloc | apply pw_below_drewN | apply below_drew1) | exact HB.out))) : w.heap.size ≤ gb799)); have n3_ := Aside0.mk ((by rw [hg]; exact (below_size (by repeat (first | (with_reducible first | exact HB.out | apply below_alloc | apply pw_below_drewN | apply below_drew1) | exact HB.out))) : w.heap.size ≤ gb799)); clear HB; have HB := n0_; have BK799 := n1_; have GW799 := n2_; have GE799 := n3_; clear n0_ n1_ n2_ n3_; clear hb hbox hg; have hcz13_0 : w12.cell? ⟨gb799, 0, none⟩ = some (.int .i64 a0_0) := (blk_cell BK799.out 0).trans rfl; have hcz13_1 : w12.cell? ⟨gb799, 1, none⟩ = some (.slice A0_1 l0_1.length c0_1) := (blk_cell BK799.out 1).trans rfl; have hfz13_0 := blk_frozen BK799.out 0; have hfz13_1 := blk_frozen BK799.out 1) | ((with_reducible refine gate_callee (f := 17) rfl ?_); refine goesL_ (some 16) rfl rfl Try.func17 (by kernel_rfl) rfl #[.agg #[.int .i64 a0_0, .slice A0_1 l0_1.length c0_1], .int .i64 1048576] rfl (by (try simp only [List.map_toArray, List.map_cons, List.map_nil]); first | done | rfl | (simp only [List.length_drop, List.length_take]; rfl)) ?_; (with_reducible refine (laws_szMatrix.calls a0_0 _ _ l0_1 1048576 t800 _ ?side1 ?side2 A2.out).mono ?_); (case side1 => repeat (first | exact (Kd.C_below HR0_1.out HB.out) | (with_reducible refine Kd.C_alloc ?_ _) | (with_reducible refine Kd.C_drewN ?_ _) | (with_reducible refine Kd.C_drew ?_))); (case side2 => exact HC0_1.out); rintro e w14 ⟨rfl, hb⟩; refine ⟨_, rfl, ?_⟩; have n0_ := Aside0.mk (blk_below (g := gb799) (o := .cells #[.int .i64 a0_0, .slice A0_1 l0_1.length c0_1] 26 (0, 0)) (by (with_reducible repeat (first | refine blk_drewN ?_ _ | refine blk_drew ?_ | refine blk_alloc ?_ _)); exact BK799.out) hb); have n1_ := Aside0.mk (below_step (by repeat (first | (with_reducible first | exact HB.out | apply below_alloc | apply pw_below_drewN | apply below_drew1 | refine below_set ?_ GE799.out) | exact HB.out)) hb); clear BK799; clear HB; have BK799 := n0_; have HB := n1_; clear n0_ n1_; (try clear hb); (try clear hb2); (try clear hk); (try clear hi); have hcz15_0 : w14.cell? ⟨gb799, 0, none⟩ = some (.int .i64 a0_0) := (blk_cell BK799.out 0).trans rfl; have hcz15_1 : w14.cell? ⟨gb799, 1, none⟩ = some (.slice A0_1 l0_1.length c0_1) := (blk_cell BK799.out 1).trans rfl; have hfz15_0 := blk_frozen BK799.out 0; have hfz15_1 := blk_frozen BK799.out 1) | ((with_reducible refine gate_callee (f := 19) rfl ?_); refine goesL_ (some 21) rfl rfl Try.func19 (by kernel_rfl) rfl #[.agg #[.int .i64 a0_0, .slice A0_1 l0_1.length c0_1]] rfl (by (try simp only [List.map_toArray, List.map_cons, List.map_nil]); first | done | rfl | (simp only [List.length_drop, List.length_take]; rfl)) ?_; (with_reducible refine (laws_toMatrix.calls k a0_0 _ _ l0_1 t801 t802 _ ?side1 ?side2 A7.out).mono ?_); (case side1 => repeat (first | exact (Kd.C_below HR0_1.out HB.out) | (with_reducible refine Kd.C_alloc ?_ _) | (with_reducible refine Kd.C_drewN ?_ _) | (with_reducible refine Kd.C_drew ?_))); (case side2 => exact HC0_1.out); rintro e w16 ⟨v803, rfl, ho0, hb⟩; refine ⟨_, rfl, ?_⟩; have n0_ := Aside0.mk (Kd.R_lower ho0 (below_size (by repeat (first | (with_reducible first | exact HB.out | apply below_alloc | apply pw_below_drewN | apply below_drew1 | refine below_set ?_ GE799.out) | exact HB.out)))); have n1_ := Aside0.mk (blk_below (g := gb799) (o := .cells #[.int .i64 a0_0, .slice A0_1 l0_1.length c0_1] 26 (0, 0)) (by (with_reducible repeat (first | refine blk_drewN ?_ _ | refine blk_drew ?_ | refine blk_alloc ?_ _)); exact BK799.out) hb); have n2_ := Aside0.mk (below_step (by repeat (first | (with_reducible first | exact HB.out | apply below_alloc | apply pw_below_drewN | apply below_drew1 | refine below_set ?_ GE799.out) | exact HB.out)) hb); clear BK799; clear HB; have HO804 := n0_; have BK799 := n1_; have HB := n2_; clear n0_ n1_ n2_; (try clear hb); (try clear hb2); (try clear hk); (try clear hi); (try clear ho0); obtain ⟨Ao17, co17, eo17⟩ := Kd.R_slice HO804.out; subst eo17) | ((with_reducible refine gate_callee (f := 38) rfl ?_); refine goesL_ (some 22) rfl rfl Try.func38 (by kernel_rfl) rfl #[.agg #[.int .i64 t801, .slice Ao17 t802.length co17]] rfl (by (try simp only [List.map_toArray, List.map_cons, List.map_nil]); first | done | rfl | (simp only [List.length_drop, List.length_take]; rfl)) ?_; (with_reducible refine (spec_Stabilise.calls k t801 _ _ t802 t805 t806 t809 _ ?side1 ?side2 A8.out).mono ?_); (case side1 => repeat (first | exact (Kd.R_reads' HO804.out).2.2 | (with_reducible refine Kd.C_alloc ?_ _) | (with_reducible refine Kd.C_drewN ?_ _) | (with_reducible refine Kd.C_drew ?_))); (case side2 => exact (Kd.R_reads' HO804.out).2.1); rintro e w18 ⟨v807, rfl, ho0, hb⟩; refine ⟨_, rfl, ?_⟩; have n0_ := Aside0.mk (Kd.R_elder' (by (with_reducible repeat (first | apply Kd.R_alloc | apply Kd.R_drewN | apply Kd.R_drew)); exact HO804.out) (Kd.R_base ho0) hb); have n1_ := Aside0.mk (Kd.R_lower (Kd.R_new' ho0 (Kd.R_lt (by (with_reducible repeat (first | apply Kd.R_alloc | apply Kd.R_drewN | apply Kd.R_drew)); exact HO804.out))) (below_size (by repeat (first | (with_reducible first | exact HB.out | apply below_alloc | apply pw_below_drewN | apply below_drew1 | refine below_set ?_ GE799.out) | exact HB.out)))); have n2_ := Aside0.mk (blk_below (g := gb799) (o := .cells #[.int .i64 a0_0, .slice A0_1 l0_1.length c0_1] 26 (0, 0)) (by (with_reducible repeat (first | refine blk_drewN ?_ _ | refine blk_drew ?_ | refine blk_alloc ?_ _)); exact BK799.out) hb); have n3_ := Aside0.mk (below_step (by repeat (first | (with_reducible first | exact HB.out | apply below_alloc | apply pw_below_drewN | apply below_drew1 | refine below_set ?_ GE799.out) | exact HB.out)) hb); clear HO804; clear BK799; clear HB; have HO804 := n0_; have HO808 := n1_; have BK799 := n2_; have HB := n3_; clear n0_ n1_ n2_ n3_; (try clear hb); (try clear hb2); (try clear hk); (try clear hi); (try clear ho0)) | ((with_reducible refine gate_dst (N := 4) rfl ?_); refine box_event ?hg (N := 4) ?hd (cs := #[.int .i64 0, .slice none 0 0]) (t := 28) ?hr ?_; (case hd => rfl); (case hg => rfl); (case hr => first | (go_simp; done) | (go_simp; rfl)); intro gb810 hg w19 hbox hb; have n0_ := Aside0.mk (Kd.R_below (by (with_reducible repeat (first | apply Kd.R_alloc | apply Kd.R_drewN | apply Kd.R_drew)); exact HO804.out) hb); have n1_ := Aside0.mk (Kd.R_below (by (with_reducible repeat (first | apply Kd.R_alloc | apply Kd.R_drewN | apply Kd.R_drew)); exact HO808.out) hb); have n2_ := Aside0.mk (blk_below (g := gb799) (o := .cells #[.int .i64 a0_0, .slice A0_1 l0_1.length c0_1] 26 (0, 0)) (by (with_reducible repeat (first | refine blk_drewN ?_ _ | refine blk_drew ?_ | refine blk_alloc ?_ _)); exact BK799.out) hb); have n3_ := Aside0.mk (below_step (by repeat (first | (with_reducible first | exact HB.out | apply below_alloc | apply pw_below_drewN | apply below_drew1 | refine below_set ?_ GE799.out) | exact HB.out)) hb); have n4_ := Aside0.mk (hbox); have n5_ := Aside0.mk ((by rw [hg]; exact (below_size (by repeat (first | (with_reducible first | exact HB.out | apply below_alloc | apply pw_below_drewN | apply below_drew1 | refine below_set ?_ GE799.out) | exact HB.out))) : w.heap.size ≤ gb810)); have n6_ := Aside0.mk ((by rw [hg]; exact (below_size (by repeat (first | (with_reducible first | exact HB.out | apply below_alloc | apply pw_below_drewN | apply below_drew1 | refine below_set ?_ GE799.out) | exact HB.out))) : w.heap.size ≤ gb810)); have n7_ := Aside0.mk ((by rw [hg]; exact Nat.ne_of_lt (blk_lt (g := gb799) (o := .cells #[.int .i64 a0_0, .slice A0_1 l0_1.length c0_1] 26 (0, 0)) (by (with_reducible repeat (first | refine blk_drewN ?_ _ | refine blk_drew ?_ | refine blk_alloc ?_ _)); exact BK799.out)) : gb799 ≠ gb810)); have n8_ := Aside0.mk ((by rw [hg]; exact Nat.ne_of_gt (blk_lt (g := gb799) (o := .cells #[.int .i64 a0_0, .slice A0_1 l0_1.length c0_1] 26 (0, 0)) (by (with_reducible repeat (first | refine blk_drewN ?_ _ | refine blk_drew ?_ | refine blk_alloc ?_ _)); exact BK799.out)) : gb810 ≠ gb799)); clear HO804; clear HO808; clear BK799; clear HB; have HO804 := n0_; have HO808 := n1_; have BK799 := n2_; have HB := n3_; have BK810 := n4_; have GW810 := n5_; have GE810 := n6_; have NB799_810 := n7_; have NB810_799 := n8_; clear n0_ n1_ n2_ n3_ n4_ n5_ n6_ n7_ n8_; clear hb hbox hg; have hnb20 := NB810_799.out; have hnc20 := NB799_810.out; have hcz21_0 : w19.cell? ⟨gb810, 0, none⟩ = some (.int .i64 0) := (blk_cell BK810.out 0).trans rfl; have hcz21_1 : w19.cell? ⟨gb810, 1, none⟩ = some (.slice none 0 0) := (blk_cell BK810.out 1).trans rfl; have hfz21_0 := blk_frozen BK810.out 0; have hfz21_1 := blk_frozen BK810.out 1; obtain ⟨Ao22, co22, eo22⟩ := Kd.R_slice HO808.out; subst eo22; have hcz23_0 : w19.cell? ⟨gb799, 0, none⟩ = some (.int .i64 a0_0) := (blk_cell BK799.out 0).trans rfl; have hcz23_1 : w19.cell? ⟨gb799, 1, none⟩ = some (.slice A0_1 l0_1.length c0_1) := (blk_cell BK799.out 1).trans rfl; have hfz23_0 := blk_frozen BK799.out 0; have hfz23_1 := blk_frozen BK799.out 1) | ((with_reducible refine gate_callee (f := 19) rfl ?_); refine goesL_ (some 26) rfl rfl Try.func19 (by kernel_rfl) rfl #[.agg #[.int .i64 a0_0, .slice A0_1 l0_1.length c0_1]] rfl (by (try simp only [List.map_toArray, List.map_cons, List.map_nil]); first | done | rfl | (simp only [List.length_drop, List.length_take]; rfl)) ?_; (with_reducible refine (laws_toMatrix.calls k a0_0 _ _ l0_1 t811 t812 _ ?side1 ?side2 A9.out).mono ?_); (case side1 => exact Kd.C_below HR0_1.out (by repeat (first | (with_reducible first | exact HB.out | apply below_alloc | apply pw_below_drewN | apply below_drew1 | refine below_set ?_ GE799.out | refine below_set ?_ GE810.out) | exact HB.out))); (case side2 => exact HC0_1.out); rintro e w24 ⟨v813, rfl, ho0, hb⟩; refine ⟨_, rfl, ?_⟩; have n0_ := Aside0.mk (Kd.R_elder' (by (with_reducible repeat (first | apply Kd.R_alloc | apply Kd.R_drewN | apply Kd.R_drew)); exact (Kd.R_mono (Kd.R_far (p := ⟨gb810, 1, none⟩) (Kd.R_far (p := ⟨gb810, 0, none⟩) (Kd.R_types HO804.out BK810.out (by decide)) (fun _ hk => hk.2) (.int .i64 t805)) (fun _ hk => hk.2) (.slice Ao22 t806.length co22)) (fun _ h_ => h_.1))) (Kd.R_base ho0) hb); have n1_ := Aside0.mk (Kd.R_elder' (by (with_reducible repeat (first | apply Kd.R_alloc | apply Kd.R_drewN | apply Kd.R_drew)); exact (Kd.R_mono (Kd.R_far (p := ⟨gb810, 1, none⟩) (Kd.R_far (p := ⟨gb810, 0, none⟩) (Kd.R_types HO808.out BK810.out (by decide)) (fun _ hk => hk.2) (.int .i64 t805)) (fun _ hk => hk.2) (.slice Ao22 t806.length co22)) (fun _ h_ => h_.1))) (Kd.R_base ho0) hb); have n2_ := Aside0.mk (Kd.R_lower (Kd.R_new' (Kd.R_new' ho0 (Kd.R_lt (by (with_reducible repeat (first | apply Kd.R_alloc | apply Kd.R_drewN | apply Kd.R_drew)); exact (Kd.R_mono (Kd.R_far (p := ⟨gb810, 1, none⟩) (Kd.R_far (p := ⟨gb810, 0, none⟩) (Kd.R_types HO804.out BK810.out (by decide)) (fun _ hk => hk.2) (.int .i64 t805)) (fun _ hk => hk.2) (.slice Ao22 t806.length co22)) (fun _ h_ => h_.1))))) (Kd.R_lt (by (with_reducible repeat (first | apply Kd.R_alloc | apply Kd.R_drewN | apply Kd.R_drew)); exact (Kd.R_mono (Kd.R_far (p := ⟨gb810, 1, none⟩) (Kd.R_far (p := ⟨gb810, 0, none⟩) (Kd.R_types HO808.out BK810.out (by decide)) (fun _ hk => hk.2) (.int .i64 t805)) (fun _ hk => hk.2) (.slice Ao22 t806.length co22)) (fun _ h_ => h_.1))))) (below_size (by repeat (first | (with_reducible first | exact HB.out | apply below_alloc | apply pw_below_drewN | apply below_drew1 | refine below_set ?_ GE799.out | refine below_set ?_ GE810.out) | exact HB.out)))); have n3_ := Aside0.mk (blk_below (g := gb799) (o := .cells #[.int .i64 a0_0, .slice A0_1 l0_1.length c0_1] 26 (0, 0)) (by (with_reducible repeat (first | refine blk_drewN ?_ _ | refine blk_drew ?_ | refine blk_alloc ?_ _)); refine blk_far ?_ NB799_810.out _; (with_reducible repeat (first | refine blk_drewN ?_ _ | refine blk_drew ?_ | refine blk_alloc ?_ _)); refine blk_far ?_ NB799_810.out _; (with_reducible repeat (first | refine blk_drewN ?_ _ | refine blk_drew ?_ | refine blk_alloc ?_ _)); exact BK799.out) hb); have n4_ := Aside0.mk (blk_below (g := gb810) (o := .cells #[.int .i64 t805, .slice Ao22 t806.length co22] 28 (0, 0)) (by (with_reducible repeat (first | refine blk_drewN ?_ _ | refine blk_drew ?_ | refine blk_alloc ?_ _)); refine blk_put (cs := #[.int .i64 t805, .slice none 0 0]) ?_ 1 _ rfl; (with_reducible repeat (first | refine blk_drewN ?_ _ | refine blk_drew ?_ | refine blk_alloc ?_ _)); refine blk_put (cs := #[.int .i64 0, .slice none 0 0]) ?_ 0 _ rfl; (with_reducible repeat (first | refine blk_drewN ?_ _ | refine blk_drew ?_ | refine blk_alloc ?_ _)); exact BK810.out) hb); have n5_ := Aside0.mk (below_step (by repeat (first | (with_reducible first | exact HB.out | apply below_alloc | apply pw_below_drewN | apply below_drew1 | refine below_set ?_ GE799.out | refine below_set ?_ GE810.out) | exact HB.out)) hb); clear HO804; clear HO808; clear BK799; clear BK810; clear HB; have HO804 := n0_; have HO808 := n1_; have HO814 := n2_; have BK799 := n3_; have BK810 := n4_; have HB := n5_; clear n0_ n1_ n2_ n3_ n4_ n5_; (try clear hb); (try clear hb2); (try clear hk); (try clear hi); (try clear ho0)) | ((with_reducible refine gate_dst (N := 6) rfl ?_); refine box_event ?hg (N := 6) ?hd (cs := #[.int .i64 0, .slice none 0 0]) (t := 28) ?hr ?_; (case hd => rfl); (case hg => rfl); (case hr => first | (go_simp; done) | (go_simp; rfl)); intro gb815 hg w25 hbox hb; have n0_ := Aside0.mk (Kd.R_below (by (with_reducible repeat (first | apply Kd.R_alloc | apply Kd.R_drewN | apply Kd.R_drew)); exact HO804.out) hb); have n1_ := Aside0.mk (Kd.R_below (by (with_reducible repeat (first | apply Kd.R_alloc | apply Kd.R_drewN | apply Kd.R_drew)); exact HO808.out) hb); have n2_ := Aside0.mk (Kd.R_below (by (with_reducible repeat (first | apply Kd.R_alloc | apply Kd.R_drewN | apply Kd.R_drew)); exact HO814.out) hb); have n3_ := Aside0.mk (blk_below (g := gb799) (o := .cells #[.int .i64 a0_0, .slice A0_1 l0_1.length c0_1] 26 (0, 0)) (by (with_reducible repeat (first | refine blk_drewN ?_ _ | refine blk_drew ?_ | refine blk_alloc ?_ _)); exact BK799.out) hb); have n4_ := Aside0.mk (blk_below (g := gb810) (o := .cells #[.int .i64 t805, .slice Ao22 t806.length co22] 28 (0, 0)) (by (with_reducible repeat (first | refine blk_drewN ?_ _ | refine blk_drew ?_ | refine blk_alloc ?_ _)); exact BK810.out) hb); have n5_ := Aside0.mk (below_step (by repeat (first | (with_reducible first | exact HB.out | apply below_alloc | apply pw_below_drewN | apply below_drew1 | refine below_set ?_ GE799.out | refine below_set ?_ GE810.out) | exact HB.out)) hb); have n6_ := Aside0.mk (hbox); have n7_ := Aside0.mk ((by rw [hg]; exact (below_size (by repeat (first | (with_reducible first | exact HB.out | apply below_alloc | apply pw_below_drewN | apply below_drew1 | refine below_set ?_ GE799.out | refine below_set ?_ GE810.out) | exact HB.out))) : w.heap.size ≤ gb815)); have n8_ := Aside0.mk ((by rw [hg]; exact (below_size (by repeat (first | (with_reducible first | exact HB.out | apply below_alloc | apply pw_below_drewN | apply below_drew1 | refine below_set ?_ GE799.out | refine below_set ?_ GE810.out) | exact HB.out))) : w.heap.size ≤ gb815)); have n9_ := Aside0.mk ((by rw [hg]; exact Nat.ne_of_lt (blk_lt (g := gb799) (o := .cells #[.int .i64 a0_0, .slice A0_1 l0_1.length c0_1] 26 (0, 0)) (by (with_reducible repeat (first | refine blk_drewN ?_ _ | refine blk_drew ?_ | refine blk_alloc ?_ _)); exact BK799.out)) : gb799 ≠ gb815)); have n10_ := Aside0.mk ((by rw [hg]; exact Nat.ne_of_gt (blk_lt (g := gb799) (o := .cells #[.int .i64 a0_0, .slice A0_1 l0_1.length c0_1] 26 (0, 0)) (by (with_reducible repeat (first | refine blk_drewN ?_ _ | refine blk_drew ?_ | refine blk_alloc ?_ _)); exact BK799.out)) : gb815 ≠ gb799)); have n11_ := Aside0.mk ((by rw [hg]; exact Nat.ne_of_lt (blk_lt (g := gb810) (o := .cells #[.int .i64 t805, .slice Ao22 t806.length co22] 28 (0, 0)) (by (with_reducible repeat (first | refine blk_drewN ?_ _ | refine blk_drew ?_ | refine blk_alloc ?_ _)); exact BK810.out)) : gb810 ≠ gb815)); have n12_ := Aside0.mk ((by rw [hg]; exact Nat.ne_of_gt (blk_lt (g := gb810) (o := .cells #[.int .i64 t805, .slice Ao22 t806.length co22] 28 (0, 0)) (by (with_reducible repeat (first | refine blk_drewN ?_ _ | refine blk_drew ?_ | refine blk_alloc ?_ _)); exact BK810.out)) : gb815 ≠ gb810)); clear HO804; clear HO808; clear HO814; clear BK799; clear BK810; clear HB; have HO804 := n0_; have HO808 := n1_; have HO814 := n2_; have BK799 := n3_; have BK810 := n4_; have HB := n5_; have BK815 := n6_; have GW815 := n7_; have GE815 := n8_; have NB799_815 := n9_; have NB815_799 := n10_; have NB810_815 := n11_; have NB815_810 := n12_; clear n0_ n1_ n2_ n3_ n4_ n5_ n6_ n7_ n8_ n9_ n10_ n11_ n12_; clear hb hbox hg; have hnb26 := NB815_799.out; have hnc26 := NB799_815.out; have hnb27 := NB815_810.out; have hnc27 := NB810_815.out; have hcz28_0 : w25.cell? ⟨gb815, 0, none⟩ = some (.int .i64 0) := (blk_cell BK815.out 0).trans rfl; have hcz28_1 : w25.cell? ⟨gb815, 1, none⟩ = some (.slice none 0 0) := (blk_cell BK815.out 1).trans rfl; have hfz28_0 := blk_frozen BK815.out 0; have hfz28_1 := blk_frozen BK815.out 1; obtain ⟨Ao29, co29, eo29⟩ := Kd.R_slice HO814.out; subst eo29) | ((with_reducible refine gate_callee (f := 39) rfl ?_); refine goesL_ (some 29) rfl rfl Try.func39 (by kernel_rfl) rfl #[.agg #[.int .i64 t811, .slice Ao29 t812.length co29]] rfl (by (try simp only [List.map_toArray, List.map_cons, List.map_nil]); first | done | rfl | (simp only [List.length_drop, List.length_take]; rfl)) ?_; (with_reducible refine (impl_Stabilise.calls k t811 _ _ t812 t816 t817 t820 _ ?side1 ?side2 A10.out).mono ?_); (case side1 => refine (Kd.R_reads' (e := 3) (base := w.heap.size) (ok := fun k_ => ((True ∧ some k_ ≠ (.slice Ao17 t802.length co17 : Value).ownBlock) ∧ some k_ ≠ (.slice Ao22 t806.length co22 : Value).ownBlock)) (n := t812.length) (c := co29) ?_).2.2; exact (by (with_reducible repeat (first | apply Kd.R_alloc | apply Kd.R_drewN | apply Kd.R_drew)); exact (Kd.R_mono (Kd.R_far (p := ⟨gb815, 1, none⟩) (Kd.R_far (p := ⟨gb815, 0, none⟩) (Kd.R_types HO814.out BK815.out (by decide)) (fun _ hk => hk.2) (.int .i64 t811)) (fun _ hk => hk.2) (.slice Ao29 t812.length co29)) (fun _ h_ => h_.1)))); (case side2 => exact (Kd.R_reads' HO814.out).2.1); rintro e w30 ⟨v818, rfl, ho0, hb⟩; refine ⟨_, rfl, ?_⟩; have n0_ := Aside0.mk (Kd.R_elder' (by (with_reducible repeat (first | apply Kd.R_alloc | apply Kd.R_drewN | apply Kd.R_drew)); exact (Kd.R_mono (Kd.R_far (p := ⟨gb815, 1, none⟩) (Kd.R_far (p := ⟨gb815, 0, none⟩) (Kd.R_types HO804.out BK815.out (by decide)) (fun _ hk => hk.2) (.int .i64 t811)) (fun _ hk => hk.2) (.slice Ao29 t812.length co29)) (fun _ h_ => h_.1))) (Kd.R_base ho0) hb); have n1_ := Aside0.mk (Kd.R_elder' (by (with_reducible repeat (first | apply Kd.R_alloc | apply Kd.R_drewN | apply Kd.R_drew)); exact (Kd.R_mono (Kd.R_far (p := ⟨gb815, 1, none⟩) (Kd.R_far (p := ⟨gb815, 0, none⟩) (Kd.R_types HO808.out BK815.out (by decide)) (fun _ hk => hk.2) (.int .i64 t811)) (fun _ hk => hk.2) (.slice Ao29 t812.length co29)) (fun _ h_ => h_.1))) (Kd.R_base ho0) hb); have n2_ := Aside0.mk (Kd.R_elder' (by (with_reducible repeat (first | apply Kd.R_alloc | apply Kd.R_drewN | apply Kd.R_drew)); exact (Kd.R_mono (Kd.R_far (p := ⟨gb815, 1, none⟩) (Kd.R_far (p := ⟨gb815, 0, none⟩) (Kd.R_types HO814.out BK815.out (by decide)) (fun _ hk => hk.2) (.int .i64 t811)) (fun _ hk => hk.2) (.slice Ao29 t812.length co29)) (fun _ h_ => h_.1))) (Kd.R_base ho0) hb); have n3_ := Aside0.mk (Kd.R_lower (Kd.R_new' (Kd.R_new' (Kd.R_new' ho0 (Kd.R_lt (by (with_reducible repeat (first | apply Kd.R_alloc | apply Kd.R_drewN | apply Kd.R_drew)); exact (Kd.R_mono (Kd.R_far (p := ⟨gb815, 1, none⟩) (Kd.R_far (p := ⟨gb815, 0, none⟩) (Kd.R_types HO804.out BK815.out (by decide)) (fun _ hk => hk.2) (.int .i64 t811)) (fun _ hk => hk.2) (.slice Ao29 t812.length co29)) (fun _ h_ => h_.1))))) (Kd.R_lt (by (with_reducible repeat (first | apply Kd.R_alloc | apply Kd.R_drewN | apply Kd.R_drew)); exact (Kd.R_mono (Kd.R_far (p := ⟨gb815, 1, none⟩) (Kd.R_far (p := ⟨gb815, 0, none⟩) (Kd.R_types HO808.out BK815.out (by decide)) (fun _ hk => hk.2) (.int .i64 t811)) (fun _ hk => hk.2) (.slice Ao29 t812.length co29)) (fun _ h_ => h_.1))))) (Kd.R_lt (by (with_reducible repeat (first | apply Kd.R_alloc | apply Kd.R_drewN | apply Kd.R_drew)); exact (Kd.R_mono (Kd.R_far (p := ⟨gb815, 1, none⟩) (Kd.R_far (p := ⟨gb815, 0, none⟩) (Kd.R_types HO814.out BK815.out (by decide)) (fun _ hk => hk.2) (.int .i64 t811)) (fun _ hk => hk.2) (.slice Ao29 t812.length co29)) (fun _ h_ => h_.1))))) (below_size (by repeat (first | (with_reducible first | exact HB.out | apply below_alloc | apply pw_below_drewN | apply below_drew1 | refine below_set ?_ GE799.out | refine below_set ?_ GE810.out | refine below_set ?_ GE815.out) | exact HB.out)))); have n4_ := Aside0.mk (blk_below (g := gb799) (o := .cells #[.int .i64 a0_0, .slice A0_1 l0_1.length c0_1] 26 (0, 0)) (by (with_reducible repeat (first | refine blk_drewN ?_ _ | refine blk_drew ?_ | refine blk_alloc ?_ _)); refine blk_far ?_ NB799_815.out _; (with_reducible repeat (first | refine blk_drewN ?_ _ | refine blk_drew ?_ | refine blk_alloc ?_ _)); refine blk_far ?_ NB799_815.out _; (with_reducible repeat (first | refine blk_drewN ?_ _ | refine blk_drew ?_ | refine blk_alloc ?_ _)); exact BK799.out) hb); have n5_ := Aside0.mk (blk_below (g := gb810) (o := .cells #[.int .i64 t805, .slice Ao22 t806.length co22] 28 (0, 0)) (by (with_reducible repeat (first | refine blk_drewN ?_ _ | refine blk_drew ?_ | refine blk_alloc ?_ _)); refine blk_far ?_ NB810_815.out _; (with_reducible repeat (first | refine blk_drewN ?_ _ | refine blk_drew ?_ | refine blk_alloc ?_ _)); refine blk_far ?_ NB810_815.out _; (with_reducible repeat (first | refine blk_drewN ?_ _ | refine blk_drew ?_ | refine blk_alloc ?_ _)); exact BK810.out) hb); have n6_ := Aside0.mk (blk_below (g := gb815) (o := .cells #[.int .i64 t811, .slice Ao29 t812.length co29] 28 (0, 0)) (by (with_reducible repeat (first | refine blk_drewN ?_ _ | refine blk_drew ?_ | refine blk_alloc ?_ _)); refine blk_put (cs := #[.int .i64 t811, .slice none 0 0]) ?_ 1 _ rfl; (with_reducible repeat (first | refine blk_drewN ?_ _ | refine blk_drew ?_ | refine blk_alloc ?_ _)); refine blk_put (cs := #[.int .i64 0, .slice none 0 0]) ?_ 0 _ rfl; (with_reducible repeat (first | refine blk_drewN ?_ _ | refine blk_drew ?_ | refine blk_alloc ?_ _)); exact BK815.out) hb); have n7_ := Aside0.mk (below_step (by repeat (first | (with_reducible first | exact HB.out | apply below_alloc | apply pw_below_drewN | apply below_drew1 | refine below_set ?_ GE799.out | refine below_set ?_ GE810.out | refine below_set ?_ GE815.out) | exact HB.out)) hb); clear HO804; clear HO808; clear HO814; clear BK799; clear BK810; clear BK815; clear HB; have HO804 := n0_; have HO808 := n1_; have HO814 := n2_; have HO819 := n3_; have BK799 := n4_; have BK810 := n5_; have BK815 := n6_; have HB := n7_; clear n0_ n1_ n2_ n3_ n4_ n5_ n6_ n7_; (try clear hb); (try clear hb2); (try clear hk); (try clear hi); (try clear ho0)) | ((with_reducible refine gate_dst (N := 7) rfl ?_); refine box_event ?hg (N := 7) ?hd (cs := #[.int .i64 0, .slice none 0 0]) (t := 28) ?hr ?_; (case hd => rfl); (case hg => rfl); (case hr => first | (go_simp; done) | (go_simp; rfl)); intro gb821 hg w31 hbox hb; have n0_ := Aside0.mk (Kd.R_below (by (with_reducible repeat (first | apply Kd.R_alloc | apply Kd.R_drewN | apply Kd.R_drew)); exact HO804.out) hb); have n1_ := Aside0.mk (Kd.R_below (by (with_reducible repeat (first | apply Kd.R_alloc | apply Kd.R_drewN | apply Kd.R_drew)); exact HO808.out) hb); have n2_ := Aside0.mk (Kd.R_below (by (with_reducible repeat (first | apply Kd.R_alloc | apply Kd.R_drewN | apply Kd.R_drew)); exact HO814.out) hb); have n3_ := Aside0.mk (Kd.R_below (by (with_reducible repeat (first | apply Kd.R_alloc | apply Kd.R_drewN | apply Kd.R_drew)); exact HO819.out) hb); have n4_ := Aside0.mk (blk_below (g := gb799) (o := .cells #[.int .i64 a0_0, .slice A0_1 l0_1.length c0_1] 26 (0, 0)) (by (with_reducible repeat (first | refine blk_drewN ?_ _ | refine blk_drew ?_ | refine blk_alloc ?_ _)); exact BK799.out) hb); have n5_ := Aside0.mk (blk_below (g := gb810) (o := .cells #[.int .i64 t805, .slice Ao22 t806.length co22] 28 (0, 0)) (by (with_reducible repeat (first | refine blk_drewN ?_ _ | refine blk_drew ?_ | refine blk_alloc ?_ _)); exact BK810.out) hb); have n6_ := Aside0.mk (blk_below (g := gb815) (o := .cells #[.int .i64 t811, .slice Ao29 t812.length co29] 28 (0, 0)) (by (with_reducible repeat (first | refine blk_drewN ?_ _ | refine blk_drew ?_ | refine blk_alloc ?_ _)); exact BK815.out) hb); have n7_ := Aside0.mk (below_step (by repeat (first | (with_reducible first | exact HB.out | apply below_alloc | apply pw_below_drewN | apply below_drew1 | refine below_set ?_ GE799.out | refine below_set ?_ GE810.out | refine below_set ?_ GE815.out) | exact HB.out)) hb); have n8_ := Aside0.mk (hbox); have n9_ := Aside0.mk ((by rw [hg]; exact (below_size (by repeat (first | (with_reducible first | exact HB.out | apply below_alloc | apply pw_below_drewN | apply below_drew1 | refine below_set ?_ GE799.out | refine below_set ?_ GE810.out | refine below_set ?_ GE815.out) | exact HB.out))) : w.heap.size ≤ gb821)); have n10_ := Aside0.mk ((by rw [hg]; exact (below_size (by repeat (first | (with_reducible first | exact HB.out | apply below_alloc | apply pw_below_drewN | apply below_drew1 | refine below_set ?_ GE799.out | refine below_set ?_ GE810.out | refine below_set ?_ GE815.out) | exact HB.out))) : w.heap.size ≤ gb821)); have n11_ := Aside0.mk ((by rw [hg]; exact Nat.ne_of_lt (blk_lt (g := gb799) (o := .cells #[.int .i64 a0_0, .slice A0_1 l0_1.length c0_1] 26 (0, 0)) (by (with_reducible repeat (first | refine blk_drewN ?_ _ | refine blk_drew ?_ | refine blk_alloc ?_ _)); exact BK799.out)) : gb799 ≠ gb821)); have n12_ := Aside0.mk ((by rw [hg]; exact Nat.ne_of_gt (blk_lt (g := gb799) (o := .cells #[.int .i64 a0_0, .slice A0_1 l0_1.length c0_1] 26 (0, 0)) (by (with_reducible repeat (first | refine blk_drewN ?_ _ | refine blk_drew ?_ | refine blk_alloc ?_ _)); exact BK799.out)) : gb821 ≠ gb799)); have n13_ := Aside0.mk ((by rw [hg]; exact Nat.ne_of_lt (blk_lt (g := gb810) (o := .cells #[.int .i64 t805, .slice Ao22 t806.length co22] 28 (0, 0)) (by (with_reducible repeat (first | refine blk_drewN ?_ _ | refine blk_drew ?_ | refine blk_alloc ?_ _)); exact BK810.out)) : gb810 ≠ gb821)); have n14_ := Aside0.mk ((by rw [hg]; exact Nat.ne_of_gt (blk_lt (g := gb810) (o := .cells #[.int .i64 t805, .slice Ao22 t806.length co22] 28 (0, 0)) (by (with_reducible repeat (first | refine blk_drewN ?_ _ | refine blk_drew ?_ | refine blk_alloc ?_ _)); exact BK810.out)) : gb821 ≠ gb810)); have n15_ := Aside0.mk ((by rw [hg]; exact Nat.ne_of_lt (blk_lt (g := gb815) (o := .cells #[.int .i64 t811, .slice Ao29 t812.length co29] 28 (0, 0)) (by (with_reducible repeat (first | refine blk_drewN ?_ _ | refine blk_drew ?_ | refine blk_alloc ?_ _)); exact BK815.out)) : gb815 ≠ gb821)); have n16_ := Aside0.mk ((by rw [hg]; exact Nat.ne_of_gt (blk_lt (g := gb815) (o := .cells #[.int .i64 t811, .slice Ao29 t812.length co29] 28 (0, 0)) (by (with_reducible repeat (first | refine blk_drewN ?_ _ | refine blk_drew ?_ | refine blk_alloc ?_ _)); exact BK815.out)) : gb821 ≠ gb815)); clear HO804; clear HO808; clear HO814; clear HO819; clear BK799; clear BK810; clear BK815; clear HB; have HO804 := n0_; have HO808 := n1_; have HO814 := n2_; have HO819 := n3_; have BK799 := n4_; have BK810 := n5_; have BK815 := n6_; have HB := n7_; have BK821 := n8_; have GW821 := n9_; have GE821 := n10_; have NB799_821 := n11_; have NB821_799 := n12_; have NB810_821 := n13_; have NB821_810 := n14_; have NB815_821 := n15_; have NB821_815 := n16_; clear n0_ n1_ n2_ n3_ n4_ n5_ n6_ n7_ n8_ n9_ n10_ n11_ n12_ n13_ n14_ n15_ n16_; clear hb hbox hg; have hnb32 := NB821_799.out; have hnc32 := NB799_821.out; have hnb33 := NB821_810.out; have hnc33 := NB810_821.out; have hnb34 := NB821_815.out; have hnc34 := NB815_821.out; have hcz35_0 : w31.cell? ⟨gb821, 0, none⟩ = some (.int .i64 0) := (blk_cell BK821.out 0).trans rfl; have hcz35_1 : w31.cell? ⟨gb821, 1, none⟩ = some (.slice none 0 0) := (blk_cell BK821.out 1).trans rfl; have hfz35_0 := blk_frozen BK821.out 0; have hfz35_1 := blk_frozen BK821.out 1; obtain ⟨Ao36, co36, eo36⟩ := Kd.R_slice HO819.out; subst eo36))
    (try simp only [Act.put, List.setIfInBounds_toArray, List.set_cons_zero, List.set_cons_succ])
    go_cut [40] (fun v40 wc => ∃ (kq : Nat) (x40_10 : Bool), v40 = .bool x40_10 ∧ Aside0 (laws_FnExactStabilise.j0 kq t809 t820 x40_10 a0_0 l0_1 t805 t806 t811 t812 t816 t817 = some r) ∧ Aside0 (kq ≤ k) ∧ Aside0 (Kd.R (Kd.int .i64) 3 wc w.heap.size (fun k_ => some k_ ≠ ((.slice Ao29 t812.length co29) : Value).ownBlock ∧ some k_ ≠ ((.slice Ao36 t817.length co36) : Value).ownBlock) (.slice Ao22 t806.length co22) t806) ∧ Aside0 (Kd.R (Kd.int .i64) 3 wc w.heap.size (fun k_ => some k_ ≠ ((.slice Ao22 t806.length co22) : Value).ownBlock ∧ some k_ ≠ ((.slice Ao36 t817.length co36) : Value).ownBlock) (.slice Ao29 t812.length co29) t812) ∧ Aside0 (Kd.R (Kd.int .i64) 3 wc w.heap.size (fun k_ => some k_ ≠ ((.slice Ao22 t806.length co22) : Value).ownBlock ∧ some k_ ≠ ((.slice Ao29 t812.length co29) : Value).ownBlock) (.slice Ao36 t817.length co36) t817) ∧ Aside0 (wc.heap[gb799]? = some (.cells #[.int .i64 a0_0, (.slice A0_1 l0_1.length c0_1)] 26 (0, 0))) ∧ Aside0 (wc.heap[gb810]? = some (.cells #[.int .i64 t805, (.slice Ao22 t806.length co22)] 28 (0, 0))) ∧ Aside0 (wc.heap[gb815]? = some (.cells #[.int .i64 t811, (.slice Ao29 t812.length co29)] 28 (0, 0))) ∧ Aside0 (wc.heap[gb821]? = some (.cells #[.int .i64 t816, (.slice Ao36 t817.length co36)] 28 (0, 0))) ∧ Aside0 (Below w.heap.size w wc))
    case first =>
      have H := HC11.out
      clear HC11
      replace H := Option.bind_eq_some_iff.mp H
      obtain ⟨t822, A370, H⟩ := H
      replace H : (if t822 = true then (laws_FnExactStabilise.j0 k t809 t820 (t820 != t809) a0_0 l0_1 t805 t806 t811 t812 t816 t817) else (laws_FnExactStabilise.j0 k t809 t820 true a0_0 l0_1 t805 t806 t811 t812 t816 t817)) = some r := H
      have A37 := Aside0.mk A370
      clear A370
      by_cases c38 : t822 = true
      · subst c38
        have H1 : (laws_FnExactStabilise.j0 k t809 t820 (t820 != t809) a0_0 l0_1 t805 t806 t811 t812 t816 t817) = some r := by rw [if_pos rfl] at H; exact H
        clear H
        have H := H1
        clear H1
        have H' := Aside0.mk H
        clear H
        have hnb39 := NB821_799.out
        have hnc39 := NB799_821.out
        have hnb40 := NB821_810.out
        have hnc40 := NB810_821.out
        have hnb41 := NB821_815.out
        have hnc41 := NB815_821.out
        have hcz42_0 : w31.cell? ⟨gb821, 0, none⟩ = some (.int .i64 0) := (blk_cell BK821.out 0).trans rfl
        have hcz42_1 : w31.cell? ⟨gb821, 1, none⟩ = some (.slice none 0 0) := (blk_cell BK821.out 1).trans rfl
        have hfz42_0 := blk_frozen BK821.out 0
        have hfz42_1 := blk_frozen BK821.out 1
        have hnb43 := NB810_799.out
        have hnc43 := NB799_810.out
        have hnb44 := NB810_815.out
        have hnc44 := NB815_810.out
        have hcz45_0 : w31.cell? ⟨gb810, 0, none⟩ = some (.int .i64 t805) := (blk_cell BK810.out 0).trans rfl
        have hcz45_1 : w31.cell? ⟨gb810, 1, none⟩ = some (.slice Ao22 t806.length co22) := (blk_cell BK810.out 1).trans rfl
        have hfz45_0 := blk_frozen BK810.out 0
        have hfz45_1 := blk_frozen BK810.out 1
        go_wp2_with (first | ((with_reducible refine gate_callee (f := 21) rfl ?_); refine goesL_ (some 34) rfl rfl Try.func21 (by kernel_rfl) rfl #[.agg #[.int .i64 t816, .slice Ao36 t817.length co36], .agg #[.int .i64 t805, .slice Ao22 t806.length co22]] rfl (by (try simp only [List.map_toArray, List.map_cons, List.map_nil]); first | done | rfl | (simp only [List.length_drop, List.length_take]; rfl)) ?_; (with_reducible refine (laws_eqMatrix.calls k t816 _ _ t817 t805 _ _ t806 true _ ?side1 ?side2 ?side3 ?side4 A37.out).mono ?_); (case side1 => refine (Kd.R_reads' (e := 3) (base := w.heap.size) (ok := fun k_ => (((True ∧ some k_ ≠ (.slice Ao17 t802.length co17 : Value).ownBlock) ∧ some k_ ≠ (.slice Ao22 t806.length co22 : Value).ownBlock) ∧ some k_ ≠ (.slice Ao29 t812.length co29 : Value).ownBlock)) (n := t817.length) (c := co36) ?_).2.2; exact (by (with_reducible repeat (first | apply Kd.R_alloc | apply Kd.R_drewN | apply Kd.R_drew)); exact (Kd.R_mono (Kd.R_far (p := ⟨gb821, 1, none⟩) (Kd.R_far (p := ⟨gb821, 0, none⟩) (Kd.R_types HO819.out BK821.out (by decide)) (fun _ hk => hk.2) (.int .i64 t816)) (fun _ hk => hk.2) (.slice Ao36 t817.length co36)) (fun _ h_ => h_.1)))); (case side2 => exact (Kd.R_reads' HO819.out).2.1); (case side3 => refine (Kd.R_reads' (e := 3) (base := w.heap.size) (ok := fun k_ => (((True ∧ some k_ ≠ (.slice Ao17 t802.length co17 : Value).ownBlock) ∧ some k_ ≠ (.slice Ao29 t812.length co29 : Value).ownBlock) ∧ some k_ ≠ (.slice Ao36 t817.length co36 : Value).ownBlock)) (n := t806.length) (c := co22) ?_).2.2; exact (by (with_reducible repeat (first | apply Kd.R_alloc | apply Kd.R_drewN | apply Kd.R_drew)); exact (Kd.R_mono (Kd.R_far (p := ⟨gb821, 1, none⟩) (Kd.R_far (p := ⟨gb821, 0, none⟩) (Kd.R_types HO808.out BK821.out (by decide)) (fun _ hk => hk.2) (.int .i64 t816)) (fun _ hk => hk.2) (.slice Ao36 t817.length co36)) (fun _ h_ => h_.1)))); (case side4 => exact (Kd.R_reads' HO808.out).2.1); rintro e w46 ⟨rfl, hb⟩; refine ⟨_, rfl, ?_⟩; have n0_ := Aside0.mk (Kd.R_below (by (with_reducible repeat (first | apply Kd.R_alloc | apply Kd.R_drewN | apply Kd.R_drew)); exact (Kd.R_mono (Kd.R_far (p := ⟨gb821, 1, none⟩) (Kd.R_far (p := ⟨gb821, 0, none⟩) (Kd.R_types HO804.out BK821.out (by decide)) (fun _ hk => hk.2) (.int .i64 t816)) (fun _ hk => hk.2) (.slice Ao36 t817.length co36)) (fun _ h_ => h_.1))) hb); have n1_ := Aside0.mk (Kd.R_below (by (with_reducible repeat (first | apply Kd.R_alloc | apply Kd.R_drewN | apply Kd.R_drew)); exact (Kd.R_mono (Kd.R_far (p := ⟨gb821, 1, none⟩) (Kd.R_far (p := ⟨gb821, 0, none⟩) (Kd.R_types HO808.out BK821.out (by decide)) (fun _ hk => hk.2) (.int .i64 t816)) (fun _ hk => hk.2) (.slice Ao36 t817.length co36)) (fun _ h_ => h_.1))) hb); have n2_ := Aside0.mk (Kd.R_below (by (with_reducible repeat (first | apply Kd.R_alloc | apply Kd.R_drewN | apply Kd.R_drew)); exact (Kd.R_mono (Kd.R_far (p := ⟨gb821, 1, none⟩) (Kd.R_far (p := ⟨gb821, 0, none⟩) (Kd.R_types HO814.out BK821.out (by decide)) (fun _ hk => hk.2) (.int .i64 t816)) (fun _ hk => hk.2) (.slice Ao36 t817.length co36)) (fun _ h_ => h_.1))) hb); have n3_ := Aside0.mk (Kd.R_below (by (with_reducible repeat (first | apply Kd.R_alloc | apply Kd.R_drewN | apply Kd.R_drew)); exact (Kd.R_mono (Kd.R_far (p := ⟨gb821, 1, none⟩) (Kd.R_far (p := ⟨gb821, 0, none⟩) (Kd.R_types HO819.out BK821.out (by decide)) (fun _ hk => hk.2) (.int .i64 t816)) (fun _ hk => hk.2) (.slice Ao36 t817.length co36)) (fun _ h_ => h_.1))) hb); have n4_ := Aside0.mk (blk_below (g := gb799) (o := .cells #[.int .i64 a0_0, .slice A0_1 l0_1.length c0_1] 26 (0, 0)) (by (with_reducible repeat (first | refine blk_drewN ?_ _ | refine blk_drew ?_ | refine blk_alloc ?_ _)); refine blk_far ?_ NB799_821.out _; (with_reducible repeat (first | refine blk_drewN ?_ _ | refine blk_drew ?_ | refine blk_alloc ?_ _)); refine blk_far ?_ NB799_821.out _; (with_reducible repeat (first | refine blk_drewN ?_ _ | refine blk_drew ?_ | refine blk_alloc ?_ _)); exact BK799.out) hb); have n5_ := Aside0.mk (blk_below (g := gb810) (o := .cells #[.int .i64 t805, .slice Ao22 t806.length co22] 28 (0, 0)) (by (with_reducible repeat (first | refine blk_drewN ?_ _ | refine blk_drew ?_ | refine blk_alloc ?_ _)); refine blk_far ?_ NB810_821.out _; (with_reducible repeat (first | refine blk_drewN ?_ _ | refine blk_drew ?_ | refine blk_alloc ?_ _)); refine blk_far ?_ NB810_821.out _; (with_reducible repeat (first | refine blk_drewN ?_ _ | refine blk_drew ?_ | refine blk_alloc ?_ _)); exact BK810.out) hb); have n6_ := Aside0.mk (blk_below (g := gb815) (o := .cells #[.int .i64 t811, .slice Ao29 t812.length co29] 28 (0, 0)) (by (with_reducible repeat (first | refine blk_drewN ?_ _ | refine blk_drew ?_ | refine blk_alloc ?_ _)); refine blk_far ?_ NB815_821.out _; (with_reducible repeat (first | refine blk_drewN ?_ _ | refine blk_drew ?_ | refine blk_alloc ?_ _)); refine blk_far ?_ NB815_821.out _; (with_reducible repeat (first | refine blk_drewN ?_ _ | refine blk_drew ?_ | refine blk_alloc ?_ _)); exact BK815.out) hb); have n7_ := Aside0.mk (blk_below (g := gb821) (o := .cells #[.int .i64 t816, .slice Ao36 t817.length co36] 28 (0, 0)) (by (with_reducible repeat (first | refine blk_drewN ?_ _ | refine blk_drew ?_ | refine blk_alloc ?_ _)); refine blk_put (cs := #[.int .i64 t816, .slice none 0 0]) ?_ 1 _ rfl; (with_reducible repeat (first | refine blk_drewN ?_ _ | refine blk_drew ?_ | refine blk_alloc ?_ _)); refine blk_put (cs := #[.int .i64 0, .slice none 0 0]) ?_ 0 _ rfl; (with_reducible repeat (first | refine blk_drewN ?_ _ | refine blk_drew ?_ | refine blk_alloc ?_ _)); exact BK821.out) hb); have n8_ := Aside0.mk (below_step (by repeat (first | (with_reducible first | exact HB.out | apply below_alloc | apply pw_below_drewN | apply below_drew1 | refine below_set ?_ GE799.out | refine below_set ?_ GE810.out | refine below_set ?_ GE815.out | refine below_set ?_ GE821.out) | exact HB.out)) hb); clear HO804; clear HO808; clear HO814; clear HO819; clear BK799; clear BK810; clear BK815; clear BK821; clear HB; have HO804 := n0_; have HO808 := n1_; have HO814 := n2_; have HO819 := n3_; have BK799 := n4_; have BK810 := n5_; have BK815 := n6_; have BK821 := n7_; have HB := n8_; clear n0_ n1_ n2_ n3_ n4_ n5_ n6_ n7_ n8_; (try clear hb); (try clear hb2); (try clear hk); (try clear hi)))
        go_meet
        case rel => exact ⟨_, ((t820 != t809)), (by first | rfl | (simp; done) | (simp [*]; done)), H', ⟨by first | omega | exact Nat.le_refl _⟩, ⟨by (with_reducible repeat (first | apply Kd.R_alloc | apply Kd.R_drewN | apply Kd.R_drew)); exact Kd.R_mono HO808.out (fun _ hk => ⟨hk.1.2, hk.2⟩)⟩, ⟨by (with_reducible repeat (first | apply Kd.R_alloc | apply Kd.R_drewN | apply Kd.R_drew)); exact Kd.R_mono HO814.out (fun _ hk => ⟨hk.1.2, hk.2⟩)⟩, ⟨by (with_reducible repeat (first | apply Kd.R_alloc | apply Kd.R_drewN | apply Kd.R_drew)); exact Kd.R_mono HO819.out (fun _ hk => ⟨hk.1.2, hk.2⟩)⟩, ⟨by (with_reducible repeat (first | refine blk_drewN ?_ _ | refine blk_drew ?_ | refine blk_alloc ?_ _)); exact BK799.out⟩, ⟨by (with_reducible repeat (first | refine blk_drewN ?_ _ | refine blk_drew ?_ | refine blk_alloc ?_ _)); exact BK810.out⟩, ⟨by (with_reducible repeat (first | refine blk_drewN ?_ _ | refine blk_drew ?_ | refine blk_alloc ?_ _)); exact BK815.out⟩, ⟨by (with_reducible repeat (first | refine blk_drewN ?_ _ | refine blk_drew ?_ | refine blk_alloc ?_ _)); exact BK821.out⟩, ⟨by repeat (first | (with_reducible first | exact HB.out | apply below_alloc | apply pw_below_drewN | apply below_drew1 | refine below_set ?_ GE799.out | refine below_set ?_ GE810.out | refine below_set ?_ GE815.out | refine below_set ?_ GE821.out) | exact HB.out)⟩⟩
      · replace c38 := Bool.eq_false_iff.mpr c38
        subst c38
        have H1 : (laws_FnExactStabilise.j0 k t809 t820 true a0_0 l0_1 t805 t806 t811 t812 t816 t817) = some r := by rw [if_neg (show ¬ (false = true) by decide)] at H; exact H
        clear H
        have H := H1
        clear H1
        have H' := Aside0.mk H
        clear H
        have hnb47 := NB821_799.out
        have hnc47 := NB799_821.out
        have hnb48 := NB821_810.out
        have hnc48 := NB810_821.out
        have hnb49 := NB821_815.out
        have hnc49 := NB815_821.out
        have hcz50_0 : w31.cell? ⟨gb821, 0, none⟩ = some (.int .i64 0) := (blk_cell BK821.out 0).trans rfl
        have hcz50_1 : w31.cell? ⟨gb821, 1, none⟩ = some (.slice none 0 0) := (blk_cell BK821.out 1).trans rfl
        have hfz50_0 := blk_frozen BK821.out 0
        have hfz50_1 := blk_frozen BK821.out 1
        have hnb51 := NB810_799.out
        have hnc51 := NB799_810.out
        have hnb52 := NB810_815.out
        have hnc52 := NB815_810.out
        have hcz53_0 : w31.cell? ⟨gb810, 0, none⟩ = some (.int .i64 t805) := (blk_cell BK810.out 0).trans rfl
        have hcz53_1 : w31.cell? ⟨gb810, 1, none⟩ = some (.slice Ao22 t806.length co22) := (blk_cell BK810.out 1).trans rfl
        have hfz53_0 := blk_frozen BK810.out 0
        have hfz53_1 := blk_frozen BK810.out 1
        go_wp2_with (first | ((with_reducible refine gate_callee (f := 21) rfl ?_); refine goesL_ (some 34) rfl rfl Try.func21 (by kernel_rfl) rfl #[.agg #[.int .i64 t816, .slice Ao36 t817.length co36], .agg #[.int .i64 t805, .slice Ao22 t806.length co22]] rfl (by (try simp only [List.map_toArray, List.map_cons, List.map_nil]); first | done | rfl | (simp only [List.length_drop, List.length_take]; rfl)) ?_; (with_reducible refine (laws_eqMatrix.calls k t816 _ _ t817 t805 _ _ t806 false _ ?side1 ?side2 ?side3 ?side4 A37.out).mono ?_); (case side1 => refine (Kd.R_reads' (e := 3) (base := w.heap.size) (ok := fun k_ => (((True ∧ some k_ ≠ (.slice Ao17 t802.length co17 : Value).ownBlock) ∧ some k_ ≠ (.slice Ao22 t806.length co22 : Value).ownBlock) ∧ some k_ ≠ (.slice Ao29 t812.length co29 : Value).ownBlock)) (n := t817.length) (c := co36) ?_).2.2; exact (by (with_reducible repeat (first | apply Kd.R_alloc | apply Kd.R_drewN | apply Kd.R_drew)); exact (Kd.R_mono (Kd.R_far (p := ⟨gb821, 1, none⟩) (Kd.R_far (p := ⟨gb821, 0, none⟩) (Kd.R_types HO819.out BK821.out (by decide)) (fun _ hk => hk.2) (.int .i64 t816)) (fun _ hk => hk.2) (.slice Ao36 t817.length co36)) (fun _ h_ => h_.1)))); (case side2 => exact (Kd.R_reads' HO819.out).2.1); (case side3 => refine (Kd.R_reads' (e := 3) (base := w.heap.size) (ok := fun k_ => (((True ∧ some k_ ≠ (.slice Ao17 t802.length co17 : Value).ownBlock) ∧ some k_ ≠ (.slice Ao29 t812.length co29 : Value).ownBlock) ∧ some k_ ≠ (.slice Ao36 t817.length co36 : Value).ownBlock)) (n := t806.length) (c := co22) ?_).2.2; exact (by (with_reducible repeat (first | apply Kd.R_alloc | apply Kd.R_drewN | apply Kd.R_drew)); exact (Kd.R_mono (Kd.R_far (p := ⟨gb821, 1, none⟩) (Kd.R_far (p := ⟨gb821, 0, none⟩) (Kd.R_types HO808.out BK821.out (by decide)) (fun _ hk => hk.2) (.int .i64 t816)) (fun _ hk => hk.2) (.slice Ao36 t817.length co36)) (fun _ h_ => h_.1)))); (case side4 => exact (Kd.R_reads' HO808.out).2.1); rintro e w54 ⟨rfl, hb⟩; refine ⟨_, rfl, ?_⟩; have n0_ := Aside0.mk (Kd.R_below (by (with_reducible repeat (first | apply Kd.R_alloc | apply Kd.R_drewN | apply Kd.R_drew)); exact (Kd.R_mono (Kd.R_far (p := ⟨gb821, 1, none⟩) (Kd.R_far (p := ⟨gb821, 0, none⟩) (Kd.R_types HO804.out BK821.out (by decide)) (fun _ hk => hk.2) (.int .i64 t816)) (fun _ hk => hk.2) (.slice Ao36 t817.length co36)) (fun _ h_ => h_.1))) hb); have n1_ := Aside0.mk (Kd.R_below (by (with_reducible repeat (first | apply Kd.R_alloc | apply Kd.R_drewN | apply Kd.R_drew)); exact (Kd.R_mono (Kd.R_far (p := ⟨gb821, 1, none⟩) (Kd.R_far (p := ⟨gb821, 0, none⟩) (Kd.R_types HO808.out BK821.out (by decide)) (fun _ hk => hk.2) (.int .i64 t816)) (fun _ hk => hk.2) (.slice Ao36 t817.length co36)) (fun _ h_ => h_.1))) hb); have n2_ := Aside0.mk (Kd.R_below (by (with_reducible repeat (first | apply Kd.R_alloc | apply Kd.R_drewN | apply Kd.R_drew)); exact (Kd.R_mono (Kd.R_far (p := ⟨gb821, 1, none⟩) (Kd.R_far (p := ⟨gb821, 0, none⟩) (Kd.R_types HO814.out BK821.out (by decide)) (fun _ hk => hk.2) (.int .i64 t816)) (fun _ hk => hk.2) (.slice Ao36 t817.length co36)) (fun _ h_ => h_.1))) hb); have n3_ := Aside0.mk (Kd.R_below (by (with_reducible repeat (first | apply Kd.R_alloc | apply Kd.R_drewN | apply Kd.R_drew)); exact (Kd.R_mono (Kd.R_far (p := ⟨gb821, 1, none⟩) (Kd.R_far (p := ⟨gb821, 0, none⟩) (Kd.R_types HO819.out BK821.out (by decide)) (fun _ hk => hk.2) (.int .i64 t816)) (fun _ hk => hk.2) (.slice Ao36 t817.length co36)) (fun _ h_ => h_.1))) hb); have n4_ := Aside0.mk (blk_below (g := gb799) (o := .cells #[.int .i64 a0_0, .slice A0_1 l0_1.length c0_1] 26 (0, 0)) (by (with_reducible repeat (first | refine blk_drewN ?_ _ | refine blk_drew ?_ | refine blk_alloc ?_ _)); refine blk_far ?_ NB799_821.out _; (with_reducible repeat (first | refine blk_drewN ?_ _ | refine blk_drew ?_ | refine blk_alloc ?_ _)); refine blk_far ?_ NB799_821.out _; (with_reducible repeat (first | refine blk_drewN ?_ _ | refine blk_drew ?_ | refine blk_alloc ?_ _)); exact BK799.out) hb); have n5_ := Aside0.mk (blk_below (g := gb810) (o := .cells #[.int .i64 t805, .slice Ao22 t806.length co22] 28 (0, 0)) (by (with_reducible repeat (first | refine blk_drewN ?_ _ | refine blk_drew ?_ | refine blk_alloc ?_ _)); refine blk_far ?_ NB810_821.out _; (with_reducible repeat (first | refine blk_drewN ?_ _ | refine blk_drew ?_ | refine blk_alloc ?_ _)); refine blk_far ?_ NB810_821.out _; (with_reducible repeat (first | refine blk_drewN ?_ _ | refine blk_drew ?_ | refine blk_alloc ?_ _)); exact BK810.out) hb); have n6_ := Aside0.mk (blk_below (g := gb815) (o := .cells #[.int .i64 t811, .slice Ao29 t812.length co29] 28 (0, 0)) (by (with_reducible repeat (first | refine blk_drewN ?_ _ | refine blk_drew ?_ | refine blk_alloc ?_ _)); refine blk_far ?_ NB815_821.out _; (with_reducible repeat (first | refine blk_drewN ?_ _ | refine blk_drew ?_ | refine blk_alloc ?_ _)); refine blk_far ?_ NB815_821.out _; (with_reducible repeat (first | refine blk_drewN ?_ _ | refine blk_drew ?_ | refine blk_alloc ?_ _)); exact BK815.out) hb); have n7_ := Aside0.mk (blk_below (g := gb821) (o := .cells #[.int .i64 t816, .slice Ao36 t817.length co36] 28 (0, 0)) (by (with_reducible repeat (first | refine blk_drewN ?_ _ | refine blk_drew ?_ | refine blk_alloc ?_ _)); refine blk_put (cs := #[.int .i64 t816, .slice none 0 0]) ?_ 1 _ rfl; (with_reducible repeat (first | refine blk_drewN ?_ _ | refine blk_drew ?_ | refine blk_alloc ?_ _)); refine blk_put (cs := #[.int .i64 0, .slice none 0 0]) ?_ 0 _ rfl; (with_reducible repeat (first | refine blk_drewN ?_ _ | refine blk_drew ?_ | refine blk_alloc ?_ _)); exact BK821.out) hb); have n8_ := Aside0.mk (below_step (by repeat (first | (with_reducible first | exact HB.out | apply below_alloc | apply pw_below_drewN | apply below_drew1 | refine below_set ?_ GE799.out | refine below_set ?_ GE810.out | refine below_set ?_ GE815.out | refine below_set ?_ GE821.out) | exact HB.out)) hb); clear HO804; clear HO808; clear HO814; clear HO819; clear BK799; clear BK810; clear BK815; clear BK821; clear HB; have HO804 := n0_; have HO808 := n1_; have HO814 := n2_; have HO819 := n3_; have BK799 := n4_; have BK810 := n5_; have BK815 := n6_; have BK821 := n7_; have HB := n8_; clear n0_ n1_ n2_ n3_ n4_ n5_ n6_ n7_ n8_; (try clear hb); (try clear hb2); (try clear hk); (try clear hi)))
        go_meet
        case rel => exact ⟨_, (true), (by first | rfl | (simp; done) | (simp [*]; done)), H', ⟨by first | omega | exact Nat.le_refl _⟩, ⟨by (with_reducible repeat (first | apply Kd.R_alloc | apply Kd.R_drewN | apply Kd.R_drew)); exact Kd.R_mono HO808.out (fun _ hk => ⟨hk.1.2, hk.2⟩)⟩, ⟨by (with_reducible repeat (first | apply Kd.R_alloc | apply Kd.R_drewN | apply Kd.R_drew)); exact Kd.R_mono HO814.out (fun _ hk => ⟨hk.1.2, hk.2⟩)⟩, ⟨by (with_reducible repeat (first | apply Kd.R_alloc | apply Kd.R_drewN | apply Kd.R_drew)); exact Kd.R_mono HO819.out (fun _ hk => ⟨hk.1.2, hk.2⟩)⟩, ⟨by (with_reducible repeat (first | refine blk_drewN ?_ _ | refine blk_drew ?_ | refine blk_alloc ?_ _)); exact BK799.out⟩, ⟨by (with_reducible repeat (first | refine blk_drewN ?_ _ | refine blk_drew ?_ | refine blk_alloc ?_ _)); exact BK810.out⟩, ⟨by (with_reducible repeat (first | refine blk_drewN ?_ _ | refine blk_drew ?_ | refine blk_alloc ?_ _)); exact BK815.out⟩, ⟨by (with_reducible repeat (first | refine blk_drewN ?_ _ | refine blk_drew ?_ | refine blk_alloc ?_ _)); exact BK821.out⟩, ⟨by repeat (first | (with_reducible first | exact HB.out | apply below_alloc | apply pw_below_drewN | apply below_drew1 | refine below_set ?_ GE799.out | refine below_set ?_ GE810.out | refine below_set ?_ GE815.out | refine below_set ?_ GE821.out) | exact HB.out)⟩⟩
    case rest =>
      clear HC11
      try clear c1
      try clear c2
      try clear p2
      try clear c3
      try clear c3b0
      try clear c4
      try clear c5
      try clear c11
      try clear c17
      try clear c19
      try clear c20
      try clear c21
      try clear c26
      try clear c27
      try clear c32
      try clear c33
      try clear c34
      try clear c38
      try clear c39
      try clear c40
      try clear c41
      try clear c43
      try clear c44
      try clear c47
      try clear c48
      try clear c49
      try clear c51
      try clear c52
      try clear hcz13_0
      try clear hcz13_1
      try clear hcz15_0
      try clear hcz15_1
      try clear hcz21_0
      try clear hcz21_1
      try clear hcz23_0
      try clear hcz23_1
      try clear hcz28_0
      try clear hcz28_1
      try clear hcz35_0
      try clear hcz35_1
      try clear hcz42_0
      try clear hcz42_1
      try clear hcz45_0
      try clear hcz45_1
      try clear hcz50_0
      try clear hcz50_1
      try clear hcz53_0
      try clear hcz53_1
      try clear hcz5_0
      try clear hcz5_1
      try clear hfz13_0
      try clear hfz13_1
      try clear hfz15_0
      try clear hfz15_1
      try clear hfz21_0
      try clear hfz21_1
      try clear hfz23_0
      try clear hfz23_1
      try clear hfz28_0
      try clear hfz28_1
      try clear hfz35_0
      try clear hfz35_1
      try clear hfz42_0
      try clear hfz42_1
      try clear hfz45_0
      try clear hfz45_1
      try clear hfz50_0
      try clear hfz50_1
      try clear hfz53_0
      try clear hfz53_1
      try clear hfz5_0
      try clear hfz5_1
      obtain ⟨kq, x40_10, rfl, HA, HJ10, HO_811001, HO_816001, HO_822001, BK799, BK810, BK815, BK821, HB⟩ := hcut
      cases kq with
      | zero => exact absurd HA.out (by simp [laws_FnExactStabilise.j0])
      | succ kj10 =>
        have H := HA.out
        clear HA
        simp only [laws_FnExactStabilise.j0] at H
        by_cases c55 : x40_10 = true
        · subst c55
          have H1 : (some false) = some r := by rw [if_pos rfl] at H; exact H
          clear H
          have H := H1
          clear H1
          obtain rfl := Option.some.inj H
          go_wp2
          go_ret
          exact ⟨by first | rfl | (simp [errW_none, errW_some] <;> rfl) | (simp [*, errW_none, errW_some] <;> rfl), by repeat (first | (with_reducible first | exact HB.out | apply below_alloc | apply pw_below_drewN | apply below_drew1 | refine below_set ?_ GE799.out | refine below_set ?_ GE810.out | refine below_set ?_ GE815.out | refine below_set ?_ GE821.out) | exact HB.out)⟩
        · replace c55 := Bool.eq_false_iff.mpr c55
          subst c55
          have H1 : ((laws_toMatrix.f kj10 a0_0 l0_1).bind fun bt823 => ((laws_eqMatrix.f kj10 t811 t812 bt823.1 bt823.2).bind fun t827 => (if t827 = true then ((laws_markMatrix.f kj10 t811 t812 1).bind fun bt828 => (if bt828.1 < 0 then (laws_FnExactStabilise.j1 kj10 t809 true a0_0 l0_1 t805 t806 t816 t817) else ((laws_eqMatrix.f kj10 t816 t817 t805 t806).bind fun t830 => (if t830 = true then (laws_FnExactStabilise.j1 kj10 t809 (t820 != t809) a0_0 l0_1 t805 t806 t816 t817) else (laws_FnExactStabilise.j1 kj10 t809 true a0_0 l0_1 t805 t806 t816 t817))))) else (some false)))) = some r := by rw [if_neg (show ¬ (false = true) by decide)] at H; exact H
          clear H
          have H := H1
          clear H1
          replace H := Option.bind_eq_some_iff.mp H
          obtain ⟨⟨t823, t824⟩, A560, H⟩ := H
          replace H : ((laws_eqMatrix.f kj10 t811 t812 t823 t824).bind fun t827 => (if t827 = true then ((laws_markMatrix.f kj10 t811 t812 1).bind fun bt828 => (if bt828.1 < 0 then (laws_FnExactStabilise.j1 kj10 t809 true a0_0 l0_1 t805 t806 t816 t817) else ((laws_eqMatrix.f kj10 t816 t817 t805 t806).bind fun t830 => (if t830 = true then (laws_FnExactStabilise.j1 kj10 t809 (t820 != t809) a0_0 l0_1 t805 t806 t816 t817) else (laws_FnExactStabilise.j1 kj10 t809 true a0_0 l0_1 t805 t806 t816 t817))))) else (some false))) = some r := H
          have A56 := Aside0.mk A560
          clear A560
          replace H := Option.bind_eq_some_iff.mp H
          obtain ⟨t827, A570, H⟩ := H
          replace H : (if t827 = true then ((laws_markMatrix.f kj10 t811 t812 1).bind fun bt828 => (if bt828.1 < 0 then (laws_FnExactStabilise.j1 kj10 t809 true a0_0 l0_1 t805 t806 t816 t817) else ((laws_eqMatrix.f kj10 t816 t817 t805 t806).bind fun t830 => (if t830 = true then (laws_FnExactStabilise.j1 kj10 t809 (t820 != t809) a0_0 l0_1 t805 t806 t816 t817) else (laws_FnExactStabilise.j1 kj10 t809 true a0_0 l0_1 t805 t806 t816 t817))))) else (some false)) = some r := H
          have A57 := Aside0.mk A570
          clear A570
          by_cases c58 : t827 = true
          · subst c58
            have H1 : ((laws_markMatrix.f kj10 t811 t812 1).bind fun bt828 => (if bt828.1 < 0 then (laws_FnExactStabilise.j1 kj10 t809 true a0_0 l0_1 t805 t806 t816 t817) else ((laws_eqMatrix.f kj10 t816 t817 t805 t806).bind fun t830 => (if t830 = true then (laws_FnExactStabilise.j1 kj10 t809 (t820 != t809) a0_0 l0_1 t805 t806 t816 t817) else (laws_FnExactStabilise.j1 kj10 t809 true a0_0 l0_1 t805 t806 t816 t817))))) = some r := by rw [if_pos rfl] at H; exact H
            clear H
            have H := H1
            clear H1
            replace H := Option.bind_eq_some_iff.mp H
            obtain ⟨⟨t828, t829⟩, A590, H⟩ := H
            replace H : (if t828 < 0 then (laws_FnExactStabilise.j1 kj10 t809 true a0_0 l0_1 t805 t806 t816 t817) else ((laws_eqMatrix.f kj10 t816 t817 t805 t806).bind fun t830 => (if t830 = true then (laws_FnExactStabilise.j1 kj10 t809 (t820 != t809) a0_0 l0_1 t805 t806 t816 t817) else (laws_FnExactStabilise.j1 kj10 t809 true a0_0 l0_1 t805 t806 t816 t817)))) = some r := H
            have A59 := Aside0.mk A590
            clear A590
            have HC60 := Aside0.mk H
            clear H
            try go_wp2
            have n0_ := Aside0.mk (Kd.R_drew HO_811001.out)
            have n1_ := Aside0.mk (Kd.R_drew HO_816001.out)
            have n2_ := Aside0.mk (Kd.R_drew HO_822001.out)
            have n3_ := Aside0.mk (blk_drew BK799.out)
            have n4_ := Aside0.mk (blk_drew BK810.out)
            have n5_ := Aside0.mk (blk_drew BK815.out)
            have n6_ := Aside0.mk (blk_drew BK821.out)
            have n7_ := Aside0.mk (below_drew1 HB.out)
            clear HO_811001
            clear HO_816001
            clear HO_822001
            clear BK799
            clear BK810
            clear BK815
            clear BK821
            clear HB
            have HO_811001 := n0_
            have HO_816001 := n1_
            have HO_822001 := n2_
            have BK799 := n3_
            have BK810 := n4_
            have BK815 := n5_
            have BK821 := n6_
            have HB := n7_
            clear n0_ n1_ n2_ n3_ n4_ n5_ n6_ n7_
            refine start_ (n := 5) (S := fun w' => w'.cell? ⟨gb815, 0, none⟩ = some (.int .i64 t811) ∧ w'.cell? ⟨gb815, 1, none⟩ = some (.slice Ao29 t812.length co29) ∧ w'.cell? ⟨gb799, 0, none⟩ = some (.int .i64 a0_0) ∧ w'.cell? ⟨gb799, 1, none⟩ = some (.slice A0_1 l0_1.length c0_1)) (ds := []) #[false, false, false, false, false] (by kernel_rfl) rfl rfl ⟨(blk_cell BK815.out 0).trans rfl, (blk_cell BK815.out 1).trans rfl, (blk_cell BK799.out 0).trans rfl, (blk_cell BK799.out 1).trans rfl⟩ (fun hHeld => ?_)
            generalize wc.drew = w61 at HO_811001 HO_816001 HO_822001 BK799 BK810 BK815 BK821 HB hHeld ⊢
            refine take_ (i := 0) (N := some 41) (v := ?_) (a' := ?_) #[true, false, false, false, false] rfl rfl (by kernel_rfl) (fun _ _ _ h => h) (Or.inl ⟨by rfl, ?_⟩) hHeld ?_ ?_
            rotate_left
            · rintro w' ⟨s0, s1, s2, s3⟩
              go_simp
              with_reducible rfl
            rotate_left
            · simp only [Act.put, List.setIfInBounds_toArray, List.set_cons_zero, List.set_cons_succ, i64_w, i32_w]
              rfl
            refine take_ (i := 1) (N := some 42) (v := ?_) (a' := ?_) #[true, true, false, false, false] rfl rfl (by kernel_rfl) (fun _ _ _ h => h) (Or.inl ⟨by rfl, ?_⟩) hHeld ?_ ?_
            rotate_left
            · rintro w' ⟨s0, s1, s2, s3⟩
              go_simp
              with_reducible rfl
            rotate_left
            · simp only [Act.put, List.setIfInBounds_toArray, List.set_cons_zero, List.set_cons_succ, i64_w, i32_w]
              rfl
            refine one_ (i := 2) (N := some 43) #[true, true, true, false, false] rfl rfl (by kernel_rfl) (by decide) (fun K hK => ?_)
            refine goes_ Try.func19 (by kernel_rfl) rfl #[.agg #[.int .i64 a0_0, .slice A0_1 l0_1.length c0_1]] (by rfl) rfl rfl (by (try simp only [List.map_toArray, List.map_cons, List.map_nil]); first | done | rfl | (simp only [List.length_drop, List.length_take]; rfl)) ?_
            with_reducible refine (laws_toMatrix.calls kj10 a0_0 _ _ l0_1 t823 t824 _ ?side1 ?side2 A56.out).mono ?_
            (case side1 => repeat (first | exact (Kd.C_below HR0_1.out HB.out) | (with_reducible refine Kd.C_alloc ?_ _) | (with_reducible refine Kd.C_drewN ?_ _) | (with_reducible refine Kd.C_drew ?_)))
            (case side2 => exact HC0_1.out)
            rintro e w62 ⟨v825, rfl, ho0, hb⟩
            refine ⟨_, rfl, ?_⟩
            have n0_ := Aside0.mk (Kd.R_elder' (by (with_reducible repeat (first | apply Kd.R_alloc | apply Kd.R_drewN | apply Kd.R_drew)); exact HO_811001.out) (Kd.R_base ho0) hb)
            have n1_ := Aside0.mk (Kd.R_elder' (by (with_reducible repeat (first | apply Kd.R_alloc | apply Kd.R_drewN | apply Kd.R_drew)); exact HO_816001.out) (Kd.R_base ho0) hb)
            have n2_ := Aside0.mk (Kd.R_elder' (by (with_reducible repeat (first | apply Kd.R_alloc | apply Kd.R_drewN | apply Kd.R_drew)); exact HO_822001.out) (Kd.R_base ho0) hb)
            have n3_ := Aside0.mk (Kd.R_lower (Kd.R_new' (Kd.R_new' (Kd.R_new' ho0 (Kd.R_lt (by (with_reducible repeat (first | apply Kd.R_alloc | apply Kd.R_drewN | apply Kd.R_drew)); exact HO_811001.out))) (Kd.R_lt (by (with_reducible repeat (first | apply Kd.R_alloc | apply Kd.R_drewN | apply Kd.R_drew)); exact HO_816001.out))) (Kd.R_lt (by (with_reducible repeat (first | apply Kd.R_alloc | apply Kd.R_drewN | apply Kd.R_drew)); exact HO_822001.out))) (below_size (by repeat (first | (with_reducible first | exact HB.out | apply below_alloc | apply pw_below_drewN | apply below_drew1 | refine below_set ?_ GE799.out | refine below_set ?_ GE810.out | refine below_set ?_ GE815.out | refine below_set ?_ GE821.out) | exact HB.out))))
            have n4_ := Aside0.mk (blk_below (g := gb799) (o := .cells #[.int .i64 a0_0, .slice A0_1 l0_1.length c0_1] 26 (0, 0)) (by (with_reducible repeat (first | refine blk_drewN ?_ _ | refine blk_drew ?_ | refine blk_alloc ?_ _)); exact BK799.out) hb)
            have n5_ := Aside0.mk (blk_below (g := gb810) (o := .cells #[.int .i64 t805, .slice Ao22 t806.length co22] 28 (0, 0)) (by (with_reducible repeat (first | refine blk_drewN ?_ _ | refine blk_drew ?_ | refine blk_alloc ?_ _)); exact BK810.out) hb)
            have n6_ := Aside0.mk (blk_below (g := gb815) (o := .cells #[.int .i64 t811, .slice Ao29 t812.length co29] 28 (0, 0)) (by (with_reducible repeat (first | refine blk_drewN ?_ _ | refine blk_drew ?_ | refine blk_alloc ?_ _)); exact BK815.out) hb)
            have n7_ := Aside0.mk (blk_below (g := gb821) (o := .cells #[.int .i64 t816, .slice Ao36 t817.length co36] 28 (0, 0)) (by (with_reducible repeat (first | refine blk_drewN ?_ _ | refine blk_drew ?_ | refine blk_alloc ?_ _)); exact BK821.out) hb)
            have n8_ := Aside0.mk (below_step (by repeat (first | (with_reducible first | exact HB.out | apply below_alloc | apply pw_below_drewN | apply below_drew1 | refine below_set ?_ GE799.out | refine below_set ?_ GE810.out | refine below_set ?_ GE815.out | refine below_set ?_ GE821.out) | exact HB.out)) hb)
            clear HO_811001
            clear HO_816001
            clear HO_822001
            clear BK799
            clear BK810
            clear BK815
            clear BK821
            clear HB
            have HO_811001 := n0_
            have HO_816001 := n1_
            have HO_822001 := n2_
            have HO826 := n3_
            have BK799 := n4_
            have BK810 := n5_
            have BK815 := n6_
            have BK821 := n7_
            have HB := n8_
            clear n0_ n1_ n2_ n3_ n4_ n5_ n6_ n7_ n8_
            (try clear hb)
            (try clear hb2)
            (try clear hk)
            (try clear hi)
            (try clear ho0)
            obtain ⟨Ao63, co63, eo63⟩ := Kd.R_slice HO826.out
            (first | subst eo63 | (injection eo63 with f1_ f2_ f3_; have f4_ := f1_.symm; have f5_ := f3_.symm; clear f1_ f2_ f3_; subst f4_; subst f5_))
            refine hK.out _ _ ⟨(blk_cell BK815.out 0).trans rfl, (blk_cell BK815.out 1).trans rfl, (blk_cell BK799.out 0).trans rfl, (blk_cell BK799.out 1).trans rfl⟩ (fun hHeld => ?_)
            clear hK K
            refine norm_ (a' := ?_) ?_ ?_
            rotate_left
            · show Act.put _ (some 43) _ = _
              simp only [Act.put, List.setIfInBounds_toArray, List.set_cons_zero, List.set_cons_succ, i64_w, i32_w]
              rfl
            refine one_ (i := 3) (N := some 44) #[true, true, true, true, false] rfl rfl (by kernel_rfl) (by decide) (fun K hK => ?_)
            refine goes_ Try.func21 (by kernel_rfl) rfl #[.agg #[.int .i64 t811, .slice Ao29 t812.length co29], .agg #[.int .i64 t823, .slice Ao63 t824.length co63]] (by rfl) rfl rfl (by (try simp only [List.map_toArray, List.map_cons, List.map_nil]); first | done | rfl | (simp only [List.length_drop, List.length_take]; rfl)) ?_
            with_reducible refine (laws_eqMatrix.calls kj10 t811 _ _ t812 t823 _ _ t824 true _ ?side1 ?side2 ?side3 ?side4 A57.out).mono ?_
            (case side1 => repeat (first | exact (Kd.R_reads' HO_816001.out).2.2 | (with_reducible refine Kd.C_alloc ?_ _) | (with_reducible refine Kd.C_drewN ?_ _) | (with_reducible refine Kd.C_drew ?_)))
            (case side2 => exact (Kd.R_reads' HO_816001.out).2.1)
            (case side3 => repeat (first | exact (Kd.R_reads' HO826.out).2.2 | (with_reducible refine Kd.C_alloc ?_ _) | (with_reducible refine Kd.C_drewN ?_ _) | (with_reducible refine Kd.C_drew ?_)))
            (case side4 => exact (Kd.R_reads' HO826.out).2.1)
            rintro e w64 ⟨rfl, hb⟩
            refine ⟨_, rfl, ?_⟩
            have n0_ := Aside0.mk (Kd.R_below (by (with_reducible repeat (first | apply Kd.R_alloc | apply Kd.R_drewN | apply Kd.R_drew)); exact HO_811001.out) hb)
            have n1_ := Aside0.mk (Kd.R_below (by (with_reducible repeat (first | apply Kd.R_alloc | apply Kd.R_drewN | apply Kd.R_drew)); exact HO_816001.out) hb)
            have n2_ := Aside0.mk (Kd.R_below (by (with_reducible repeat (first | apply Kd.R_alloc | apply Kd.R_drewN | apply Kd.R_drew)); exact HO_822001.out) hb)
            have n3_ := Aside0.mk (Kd.R_below (by (with_reducible repeat (first | apply Kd.R_alloc | apply Kd.R_drewN | apply Kd.R_drew)); exact HO826.out) hb)
            have n4_ := Aside0.mk (blk_below (g := gb799) (o := .cells #[.int .i64 a0_0, .slice A0_1 l0_1.length c0_1] 26 (0, 0)) (by (with_reducible repeat (first | refine blk_drewN ?_ _ | refine blk_drew ?_ | refine blk_alloc ?_ _)); exact BK799.out) hb)
            have n5_ := Aside0.mk (blk_below (g := gb810) (o := .cells #[.int .i64 t805, .slice Ao22 t806.length co22] 28 (0, 0)) (by (with_reducible repeat (first | refine blk_drewN ?_ _ | refine blk_drew ?_ | refine blk_alloc ?_ _)); exact BK810.out) hb)
            have n6_ := Aside0.mk (blk_below (g := gb815) (o := .cells #[.int .i64 t811, .slice Ao29 t812.length co29] 28 (0, 0)) (by (with_reducible repeat (first | refine blk_drewN ?_ _ | refine blk_drew ?_ | refine blk_alloc ?_ _)); exact BK815.out) hb)
            have n7_ := Aside0.mk (blk_below (g := gb821) (o := .cells #[.int .i64 t816, .slice Ao36 t817.length co36] 28 (0, 0)) (by (with_reducible repeat (first | refine blk_drewN ?_ _ | refine blk_drew ?_ | refine blk_alloc ?_ _)); exact BK821.out) hb)
            have n8_ := Aside0.mk (below_step (by repeat (first | (with_reducible first | exact HB.out | apply below_alloc | apply pw_below_drewN | apply below_drew1 | refine below_set ?_ GE799.out | refine below_set ?_ GE810.out | refine below_set ?_ GE815.out | refine below_set ?_ GE821.out) | exact HB.out)) hb)
            clear HO_811001
            clear HO_816001
            clear HO_822001
            clear HO826
            clear BK799
            clear BK810
            clear BK815
            clear BK821
            clear HB
            have HO_811001 := n0_
            have HO_816001 := n1_
            have HO_822001 := n2_
            have HO826 := n3_
            have BK799 := n4_
            have BK810 := n5_
            have BK815 := n6_
            have BK821 := n7_
            have HB := n8_
            clear n0_ n1_ n2_ n3_ n4_ n5_ n6_ n7_ n8_
            (try clear hb)
            (try clear hb2)
            (try clear hk)
            (try clear hi)
            refine hK.out _ _ ⟨(blk_cell BK815.out 0).trans rfl, (blk_cell BK815.out 1).trans rfl, (blk_cell BK799.out 0).trans rfl, (blk_cell BK799.out 1).trans rfl⟩ (fun hHeld => ?_)
            clear hK K
            refine norm_ (a' := ?_) ?_ ?_
            rotate_left
            · show Act.put _ (some 44) _ = _
              simp only [Act.put, List.setIfInBounds_toArray, List.set_cons_zero, List.set_cons_succ, i64_w, i32_w]
              rfl
            refine pure_ (i := 4) (N := some 45) (v := ?_) (a' := ?_) #[true, true, true, true, true] rfl rfl (by kernel_rfl) (fun _ _ _ h => h) (Or.inl ⟨by rfl, ?_⟩) ?_ ?_
            rotate_left
            · intro w'
              go_simp
              with_reducible rfl
            rotate_left
            · simp only [Act.put, List.setIfInBounds_toArray, List.set_cons_zero, List.set_cons_succ, i64_w, i32_w]
              rfl
            refine done_ (by kernel_rfl) ?_
            have hnb65 := NB815_799.out
            have hnc65 := NB799_815.out
            have hnb66 := NB815_810.out
            have hnc66 := NB810_815.out
            have hnb67 := NB815_821.out
            have hnc67 := NB821_815.out
            have hcz68_0 : w64.cell? ⟨gb815, 0, none⟩ = some (.int .i64 t811) := (blk_cell BK815.out 0).trans rfl
            have hcz68_1 : w64.cell? ⟨gb815, 1, none⟩ = some (.slice Ao29 t812.length co29) := (blk_cell BK815.out 1).trans rfl
            have hfz68_0 := blk_frozen BK815.out 0
            have hfz68_1 := blk_frozen BK815.out 1
            go_upto_region 14 with (first | ((with_reducible refine gate_callee (f := 22) rfl ?_); refine goesL_ (some 48) rfl rfl Try.func22 (by kernel_rfl) rfl #[.agg #[.int .i64 t811, .slice Ao29 t812.length co29], .int .i64 1] rfl (by (try simp only [List.map_toArray, List.map_cons, List.map_nil]); first | done | rfl | (simp only [List.length_drop, List.length_take]; rfl)) ?_; (with_reducible refine (laws_markMatrix.calls kj10 t811 (fun k_ => some k_ = (.slice Ao29 t812.length co29 : Value).ownBlock) (.slice Ao29 t812.length co29) t812 1 t828 t829 w _ ?side1 ?side2 A59.out).mono ?_); (case side1 => repeat (first | (with_reducible first | exact HB.out | apply below_alloc | apply pw_below_drewN | apply below_drew1 | refine below_set ?_ GE799.out | refine below_set ?_ GE810.out | refine below_set ?_ GE815.out | refine below_set ?_ GE821.out) | exact HB.out)); (case side2 => exact Kd.R_tight rfl HO_816001.out); rintro e w69 ⟨rfl, hy0, hb, hkp⟩; refine ⟨_, rfl, ?_⟩; have n0_ := Aside0.mk (Kd.R_mono (ok' := fun k_ => some k_ ≠ (.slice Ao29 t812.length co29 : Value).ownBlock ∧ some k_ ≠ (.slice Ao36 t817.length co36 : Value).ownBlock ∧ some k_ ≠ (.slice Ao63 t824.length co63 : Value).ownBlock) (Kd.R_keptB (HO_811001.out) hkp (fun k_ hk_ hs_ => (hk_.1.1) hs_)) (fun k_ hk_ => ⟨hk_.1.1.1, hk_.1.1.2, hk_.1.2⟩)); have n1_ := Aside0.mk (Kd.R_reok rfl hy0 (fun k_ e_ => HO_816001.out.1 k_ e_)); have n2_ := Aside0.mk (Kd.R_mono (ok' := fun k_ => some k_ ≠ (.slice Ao22 t806.length co22 : Value).ownBlock ∧ some k_ ≠ (.slice Ao29 t812.length co29 : Value).ownBlock ∧ some k_ ≠ (.slice Ao63 t824.length co63 : Value).ownBlock) (Kd.R_keptB (HO_822001.out) hkp (fun k_ hk_ hs_ => (hk_.1.2) hs_)) (fun k_ hk_ => ⟨hk_.1.1.1, hk_.1.1.2, hk_.1.2⟩)); have n3_ := Aside0.mk (blk_kept (by (with_reducible repeat (first | refine blk_drewN ?_ _ | refine blk_drew ?_ | refine blk_alloc ?_ _)); exact BK799.out) hkp (fun hs_ => (fun e_ => (Kd.R_ne HO_816001.out BK799.out (by decide)) e_) hs_)); have n4_ := Aside0.mk (blk_kept (by (with_reducible repeat (first | refine blk_drewN ?_ _ | refine blk_drew ?_ | refine blk_alloc ?_ _)); exact BK810.out) hkp (fun hs_ => (fun e_ => (Kd.R_ne HO_816001.out BK810.out (by decide)) e_) hs_)); have n5_ := Aside0.mk (blk_kept (by (with_reducible repeat (first | refine blk_drewN ?_ _ | refine blk_drew ?_ | refine blk_alloc ?_ _)); exact BK815.out) hkp (fun hs_ => (fun e_ => (Kd.R_ne HO_816001.out BK815.out (by decide)) e_) hs_)); have n6_ := Aside0.mk (blk_kept (by (with_reducible repeat (first | refine blk_drewN ?_ _ | refine blk_drew ?_ | refine blk_alloc ?_ _)); exact BK821.out) hkp (fun hs_ => (fun e_ => (Kd.R_ne HO_816001.out BK821.out (by decide)) e_) hs_)); have n7_ := Aside0.mk (Kd.R_mono (ok' := fun k_ => some k_ ≠ (.slice Ao22 t806.length co22 : Value).ownBlock ∧ some k_ ≠ (.slice Ao29 t812.length co29 : Value).ownBlock ∧ some k_ ≠ (.slice Ao36 t817.length co36 : Value).ownBlock) (Kd.R_keptB (HO826.out) hkp (fun k_ hk_ hs_ => (hk_.1.2) hs_)) (fun k_ hk_ => ⟨hk_.1.1.1.2, hk_.1.1.2, hk_.1.2⟩)); have n8_ := Aside0.mk (hb); clear HO_811001; clear HO_816001; clear HO_822001; clear BK799; clear BK810; clear BK815; clear BK821; clear HO826; clear HB; have HO_811001 := n0_; have HO_816001 := n1_; have HO_822001 := n2_; have BK799 := n3_; have BK810 := n4_; have BK815 := n5_; have BK821 := n6_; have HO826 := n7_; have HB := n8_; clear n0_ n1_ n2_ n3_ n4_ n5_ n6_ n7_ n8_; (try clear hb); (try clear hkp); (try clear hy0)))
            (try simp only [Act.put, List.setIfInBounds_toArray, List.set_cons_zero, List.set_cons_succ])
            go_cut [61] (fun v61 wc => ∃ (kq : Nat) (x61_59 : Bool), v61 = .bool x61_59 ∧ Aside0 (laws_FnExactStabilise.j1 kq t809 x61_59 a0_0 l0_1 t805 t806 t816 t817 = some r) ∧ Aside0 (kq ≤ kj10) ∧ Aside0 (Kd.R (Kd.int .i64) 3 wc w.heap.size (fun k_ => some k_ ≠ ((.slice Ao29 t812.length co29) : Value).ownBlock ∧ some k_ ≠ ((.slice Ao36 t817.length co36) : Value).ownBlock) (.slice Ao22 t806.length co22) t806) ∧ Aside0 (Kd.R (Kd.int .i64) 3 wc w.heap.size (fun k_ => some k_ ≠ ((.slice Ao22 t806.length co22) : Value).ownBlock ∧ some k_ ≠ ((.slice Ao36 t817.length co36) : Value).ownBlock) (.slice Ao29 t812.length co29) t829) ∧ Aside0 (Kd.R (Kd.int .i64) 3 wc w.heap.size (fun k_ => some k_ ≠ ((.slice Ao22 t806.length co22) : Value).ownBlock ∧ some k_ ≠ ((.slice Ao29 t812.length co29) : Value).ownBlock) (.slice Ao36 t817.length co36) t817) ∧ Aside0 (wc.heap[gb799]? = some (.cells #[.int .i64 a0_0, (.slice A0_1 l0_1.length c0_1)] 26 (0, 0))) ∧ Aside0 (wc.heap[gb810]? = some (.cells #[.int .i64 t805, (.slice Ao22 t806.length co22)] 28 (0, 0))) ∧ Aside0 (wc.heap[gb815]? = some (.cells #[.int .i64 t811, (.slice Ao29 t812.length co29)] 28 (0, 0))) ∧ Aside0 (wc.heap[gb821]? = some (.cells #[.int .i64 t816, (.slice Ao36 t817.length co36)] 28 (0, 0))) ∧ Aside0 (Below w.heap.size w wc))
            case first =>
              have H := HC60.out
              clear HC60
              by_cases c70 : t828 < 0
              · rw [if_pos c70] at H
                have c70b0 : decide (t828 < 0) = true := decide_eq_true c70
                clear c70
                (first | rw [c70b0] | (simp only [i64_w, i32_w]; rw [c70b0]) | skip)
                have H' := Aside0.mk H
                clear H
                go_wp2
                go_meet
                case rel => exact ⟨_, (true), (by first | rfl | (simp; done) | (simp [*]; done)), H', ⟨by have := HJ10.out; first | omega | exact Nat.le_refl _⟩, ⟨by (with_reducible repeat (first | apply Kd.R_alloc | apply Kd.R_drewN | apply Kd.R_drew)); exact Kd.R_mono HO_811001.out (fun _ hk => ⟨hk.1, hk.2.1⟩)⟩, ⟨by (with_reducible repeat (first | apply Kd.R_alloc | apply Kd.R_drewN | apply Kd.R_drew)); exact Kd.R_mono HO_816001.out (fun _ hk => ⟨hk.1.1, hk.1.2⟩)⟩, ⟨by (with_reducible repeat (first | apply Kd.R_alloc | apply Kd.R_drewN | apply Kd.R_drew)); exact Kd.R_mono HO_822001.out (fun _ hk => ⟨hk.1, hk.2.1⟩)⟩, ⟨by (with_reducible repeat (first | refine blk_drewN ?_ _ | refine blk_drew ?_ | refine blk_alloc ?_ _)); exact BK799.out⟩, ⟨by (with_reducible repeat (first | refine blk_drewN ?_ _ | refine blk_drew ?_ | refine blk_alloc ?_ _)); exact BK810.out⟩, ⟨by (with_reducible repeat (first | refine blk_drewN ?_ _ | refine blk_drew ?_ | refine blk_alloc ?_ _)); exact BK815.out⟩, ⟨by (with_reducible repeat (first | refine blk_drewN ?_ _ | refine blk_drew ?_ | refine blk_alloc ?_ _)); exact BK821.out⟩, ⟨by repeat (first | (with_reducible first | exact HB.out | apply below_alloc | apply pw_below_drewN | apply below_drew1 | refine below_set ?_ GE799.out | refine below_set ?_ GE810.out | refine below_set ?_ GE815.out | refine below_set ?_ GE821.out) | exact HB.out)⟩⟩
              · rw [if_neg c70] at H
                have c70b0 : decide (t828 < 0) = false := decide_eq_false c70
                clear c70
                (first | rw [c70b0] | (simp only [i64_w, i32_w]; rw [c70b0]) | skip)
                replace H := Option.bind_eq_some_iff.mp H
                obtain ⟨t830, A710, H⟩ := H
                replace H : (if t830 = true then (laws_FnExactStabilise.j1 kj10 t809 (t820 != t809) a0_0 l0_1 t805 t806 t816 t817) else (laws_FnExactStabilise.j1 kj10 t809 true a0_0 l0_1 t805 t806 t816 t817)) = some r := H
                have A71 := Aside0.mk A710
                clear A710
                by_cases c72 : t830 = true
                · subst c72
                  have H1 : (laws_FnExactStabilise.j1 kj10 t809 (t820 != t809) a0_0 l0_1 t805 t806 t816 t817) = some r := by rw [if_pos rfl] at H; exact H
                  clear H
                  have H := H1
                  clear H1
                  have H' := Aside0.mk H
                  clear H
                  have hnb73 := NB821_799.out
                  have hnc73 := NB799_821.out
                  have hnb74 := NB821_810.out
                  have hnc74 := NB810_821.out
                  have hnb75 := NB821_815.out
                  have hnc75 := NB815_821.out
                  have hcz76_0 : w69.cell? ⟨gb821, 0, none⟩ = some (.int .i64 t816) := (blk_cell BK821.out 0).trans rfl
                  have hcz76_1 : w69.cell? ⟨gb821, 1, none⟩ = some (.slice Ao36 t817.length co36) := (blk_cell BK821.out 1).trans rfl
                  have hfz76_0 := blk_frozen BK821.out 0
                  have hfz76_1 := blk_frozen BK821.out 1
                  have hnb77 := NB810_799.out
                  have hnc77 := NB799_810.out
                  have hnb78 := NB810_815.out
                  have hnc78 := NB815_810.out
                  have hcz79_0 : w69.cell? ⟨gb810, 0, none⟩ = some (.int .i64 t805) := (blk_cell BK810.out 0).trans rfl
                  have hcz79_1 : w69.cell? ⟨gb810, 1, none⟩ = some (.slice Ao22 t806.length co22) := (blk_cell BK810.out 1).trans rfl
                  have hfz79_0 := blk_frozen BK810.out 0
                  have hfz79_1 := blk_frozen BK810.out 1
                  go_wp2_with (first | (go_at_call 21; (with_reducible refine (laws_eqMatrix.calls kj10 t816 _ _ t817 t805 _ _ t806 true _ ?side1 ?side2 ?side3 ?side4 A71.out).mono ?_); (case side1 => repeat (first | exact (Kd.R_reads' HO_822001.out).2.2 | (with_reducible refine Kd.C_alloc ?_ _) | (with_reducible refine Kd.C_drewN ?_ _) | (with_reducible refine Kd.C_drew ?_))); (case side2 => exact (Kd.R_reads' HO_822001.out).2.1); (case side3 => repeat (first | exact (Kd.R_reads' HO_811001.out).2.2 | (with_reducible refine Kd.C_alloc ?_ _) | (with_reducible refine Kd.C_drewN ?_ _) | (with_reducible refine Kd.C_drew ?_))); (case side4 => exact (Kd.R_reads' HO_811001.out).2.1); rintro e w80 ⟨rfl, hb⟩; have n0_ := Aside0.mk (Kd.R_below (by (with_reducible repeat (first | apply Kd.R_alloc | apply Kd.R_drewN | apply Kd.R_drew)); exact HO_811001.out) hb); have n1_ := Aside0.mk (Kd.R_below (by (with_reducible repeat (first | apply Kd.R_alloc | apply Kd.R_drewN | apply Kd.R_drew)); exact HO_816001.out) hb); have n2_ := Aside0.mk (Kd.R_below (by (with_reducible repeat (first | apply Kd.R_alloc | apply Kd.R_drewN | apply Kd.R_drew)); exact HO_822001.out) hb); have n3_ := Aside0.mk (Kd.R_below (by (with_reducible repeat (first | apply Kd.R_alloc | apply Kd.R_drewN | apply Kd.R_drew)); exact HO826.out) hb); have n4_ := Aside0.mk (blk_below (g := gb799) (o := .cells #[.int .i64 a0_0, .slice A0_1 l0_1.length c0_1] 26 (0, 0)) (by (with_reducible repeat (first | refine blk_drewN ?_ _ | refine blk_drew ?_ | refine blk_alloc ?_ _)); exact BK799.out) hb); have n5_ := Aside0.mk (blk_below (g := gb810) (o := .cells #[.int .i64 t805, .slice Ao22 t806.length co22] 28 (0, 0)) (by (with_reducible repeat (first | refine blk_drewN ?_ _ | refine blk_drew ?_ | refine blk_alloc ?_ _)); exact BK810.out) hb); have n6_ := Aside0.mk (blk_below (g := gb815) (o := .cells #[.int .i64 t811, .slice Ao29 t812.length co29] 28 (0, 0)) (by (with_reducible repeat (first | refine blk_drewN ?_ _ | refine blk_drew ?_ | refine blk_alloc ?_ _)); exact BK815.out) hb); have n7_ := Aside0.mk (blk_below (g := gb821) (o := .cells #[.int .i64 t816, .slice Ao36 t817.length co36] 28 (0, 0)) (by (with_reducible repeat (first | refine blk_drewN ?_ _ | refine blk_drew ?_ | refine blk_alloc ?_ _)); exact BK821.out) hb); have n8_ := Aside0.mk (below_step (by repeat (first | (with_reducible first | exact HB.out | apply below_alloc | apply pw_below_drewN | apply below_drew1 | refine below_set ?_ GE799.out | refine below_set ?_ GE810.out | refine below_set ?_ GE815.out | refine below_set ?_ GE821.out) | exact HB.out)) hb); clear HO_811001; clear HO_816001; clear HO_822001; clear HO826; clear BK799; clear BK810; clear BK815; clear BK821; clear HB; have HO_811001 := n0_; have HO_816001 := n1_; have HO_822001 := n2_; have HO826 := n3_; have BK799 := n4_; have BK810 := n5_; have BK815 := n6_; have BK821 := n7_; have HB := n8_; clear n0_ n1_ n2_ n3_ n4_ n5_ n6_ n7_ n8_; (try clear hb); (try clear hb2); (try clear hk); (try clear hi)))
                  go_meet
                  case rel => exact ⟨_, ((t820 != t809)), (by first | rfl | (simp; done) | (simp [*]; done)), H', ⟨by have := HJ10.out; first | omega | exact Nat.le_refl _⟩, ⟨by (with_reducible repeat (first | apply Kd.R_alloc | apply Kd.R_drewN | apply Kd.R_drew)); exact Kd.R_mono HO_811001.out (fun _ hk => ⟨hk.1, hk.2.1⟩)⟩, ⟨by (with_reducible repeat (first | apply Kd.R_alloc | apply Kd.R_drewN | apply Kd.R_drew)); exact Kd.R_mono HO_816001.out (fun _ hk => ⟨hk.1.1, hk.1.2⟩)⟩, ⟨by (with_reducible repeat (first | apply Kd.R_alloc | apply Kd.R_drewN | apply Kd.R_drew)); exact Kd.R_mono HO_822001.out (fun _ hk => ⟨hk.1, hk.2.1⟩)⟩, ⟨by (with_reducible repeat (first | refine blk_drewN ?_ _ | refine blk_drew ?_ | refine blk_alloc ?_ _)); exact BK799.out⟩, ⟨by (with_reducible repeat (first | refine blk_drewN ?_ _ | refine blk_drew ?_ | refine blk_alloc ?_ _)); exact BK810.out⟩, ⟨by (with_reducible repeat (first | refine blk_drewN ?_ _ | refine blk_drew ?_ | refine blk_alloc ?_ _)); exact BK815.out⟩, ⟨by (with_reducible repeat (first | refine blk_drewN ?_ _ | refine blk_drew ?_ | refine blk_alloc ?_ _)); exact BK821.out⟩, ⟨by repeat (first | (with_reducible first | exact HB.out | apply below_alloc | apply pw_below_drewN | apply below_drew1 | refine below_set ?_ GE799.out | refine below_set ?_ GE810.out | refine below_set ?_ GE815.out | refine below_set ?_ GE821.out) | exact HB.out)⟩⟩
                · replace c72 := Bool.eq_false_iff.mpr c72
                  subst c72
                  have H1 : (laws_FnExactStabilise.j1 kj10 t809 true a0_0 l0_1 t805 t806 t816 t817) = some r := by rw [if_neg (show ¬ (false = true) by decide)] at H; exact H
                  clear H
                  have H := H1
                  clear H1
                  have H' := Aside0.mk H
                  clear H
                  have hnb81 := NB821_799.out
                  have hnc81 := NB799_821.out
                  have hnb82 := NB821_810.out
                  have hnc82 := NB810_821.out
                  have hnb83 := NB821_815.out
                  have hnc83 := NB815_821.out
                  have hcz84_0 : w69.cell? ⟨gb821, 0, none⟩ = some (.int .i64 t816) := (blk_cell BK821.out 0).trans rfl
                  have hcz84_1 : w69.cell? ⟨gb821, 1, none⟩ = some (.slice Ao36 t817.length co36) := (blk_cell BK821.out 1).trans rfl
                  have hfz84_0 := blk_frozen BK821.out 0
                  have hfz84_1 := blk_frozen BK821.out 1
                  have hnb85 := NB810_799.out
                  have hnc85 := NB799_810.out
                  have hnb86 := NB810_815.out
                  have hnc86 := NB815_810.out
                  have hcz87_0 : w69.cell? ⟨gb810, 0, none⟩ = some (.int .i64 t805) := (blk_cell BK810.out 0).trans rfl
                  have hcz87_1 : w69.cell? ⟨gb810, 1, none⟩ = some (.slice Ao22 t806.length co22) := (blk_cell BK810.out 1).trans rfl
                  have hfz87_0 := blk_frozen BK810.out 0
                  have hfz87_1 := blk_frozen BK810.out 1
                  go_wp2_with (first | (go_at_call 21; (with_reducible refine (laws_eqMatrix.calls kj10 t816 _ _ t817 t805 _ _ t806 false _ ?side1 ?side2 ?side3 ?side4 A71.out).mono ?_); (case side1 => repeat (first | exact (Kd.R_reads' HO_822001.out).2.2 | (with_reducible refine Kd.C_alloc ?_ _) | (with_reducible refine Kd.C_drewN ?_ _) | (with_reducible refine Kd.C_drew ?_))); (case side2 => exact (Kd.R_reads' HO_822001.out).2.1); (case side3 => repeat (first | exact (Kd.R_reads' HO_811001.out).2.2 | (with_reducible refine Kd.C_alloc ?_ _) | (with_reducible refine Kd.C_drewN ?_ _) | (with_reducible refine Kd.C_drew ?_))); (case side4 => exact (Kd.R_reads' HO_811001.out).2.1); rintro e w88 ⟨rfl, hb⟩; have n0_ := Aside0.mk (Kd.R_below (by (with_reducible repeat (first | apply Kd.R_alloc | apply Kd.R_drewN | apply Kd.R_drew)); exact HO_811001.out) hb); have n1_ := Aside0.mk (Kd.R_below (by (with_reducible repeat (first | apply Kd.R_alloc | apply Kd.R_drewN | apply Kd.R_drew)); exact HO_816001.out) hb); have n2_ := Aside0.mk (Kd.R_below (by (with_reducible repeat (first | apply Kd.R_alloc | apply Kd.R_drewN | apply Kd.R_drew)); exact HO_822001.out) hb); have n3_ := Aside0.mk (Kd.R_below (by (with_reducible repeat (first | apply Kd.R_alloc | apply Kd.R_drewN | apply Kd.R_drew)); exact HO826.out) hb); have n4_ := Aside0.mk (blk_below (g := gb799) (o := .cells #[.int .i64 a0_0, .slice A0_1 l0_1.length c0_1] 26 (0, 0)) (by (with_reducible repeat (first | refine blk_drewN ?_ _ | refine blk_drew ?_ | refine blk_alloc ?_ _)); exact BK799.out) hb); have n5_ := Aside0.mk (blk_below (g := gb810) (o := .cells #[.int .i64 t805, .slice Ao22 t806.length co22] 28 (0, 0)) (by (with_reducible repeat (first | refine blk_drewN ?_ _ | refine blk_drew ?_ | refine blk_alloc ?_ _)); exact BK810.out) hb); have n6_ := Aside0.mk (blk_below (g := gb815) (o := .cells #[.int .i64 t811, .slice Ao29 t812.length co29] 28 (0, 0)) (by (with_reducible repeat (first | refine blk_drewN ?_ _ | refine blk_drew ?_ | refine blk_alloc ?_ _)); exact BK815.out) hb); have n7_ := Aside0.mk (blk_below (g := gb821) (o := .cells #[.int .i64 t816, .slice Ao36 t817.length co36] 28 (0, 0)) (by (with_reducible repeat (first | refine blk_drewN ?_ _ | refine blk_drew ?_ | refine blk_alloc ?_ _)); exact BK821.out) hb); have n8_ := Aside0.mk (below_step (by repeat (first | (with_reducible first | exact HB.out | apply below_alloc | apply pw_below_drewN | apply below_drew1 | refine below_set ?_ GE799.out | refine below_set ?_ GE810.out | refine below_set ?_ GE815.out | refine below_set ?_ GE821.out) | exact HB.out)) hb); clear HO_811001; clear HO_816001; clear HO_822001; clear HO826; clear BK799; clear BK810; clear BK815; clear BK821; clear HB; have HO_811001 := n0_; have HO_816001 := n1_; have HO_822001 := n2_; have HO826 := n3_; have BK799 := n4_; have BK810 := n5_; have BK815 := n6_; have BK821 := n7_; have HB := n8_; clear n0_ n1_ n2_ n3_ n4_ n5_ n6_ n7_ n8_; (try clear hb); (try clear hb2); (try clear hk); (try clear hi)))
                  go_meet
                  case rel => exact ⟨_, (true), (by first | rfl | (simp; done) | (simp [*]; done)), H', ⟨by have := HJ10.out; first | omega | exact Nat.le_refl _⟩, ⟨by (with_reducible repeat (first | apply Kd.R_alloc | apply Kd.R_drewN | apply Kd.R_drew)); exact Kd.R_mono HO_811001.out (fun _ hk => ⟨hk.1, hk.2.1⟩)⟩, ⟨by (with_reducible repeat (first | apply Kd.R_alloc | apply Kd.R_drewN | apply Kd.R_drew)); exact Kd.R_mono HO_816001.out (fun _ hk => ⟨hk.1.1, hk.1.2⟩)⟩, ⟨by (with_reducible repeat (first | apply Kd.R_alloc | apply Kd.R_drewN | apply Kd.R_drew)); exact Kd.R_mono HO_822001.out (fun _ hk => ⟨hk.1, hk.2.1⟩)⟩, ⟨by (with_reducible repeat (first | refine blk_drewN ?_ _ | refine blk_drew ?_ | refine blk_alloc ?_ _)); exact BK799.out⟩, ⟨by (with_reducible repeat (first | refine blk_drewN ?_ _ | refine blk_drew ?_ | refine blk_alloc ?_ _)); exact BK810.out⟩, ⟨by (with_reducible repeat (first | refine blk_drewN ?_ _ | refine blk_drew ?_ | refine blk_alloc ?_ _)); exact BK815.out⟩, ⟨by (with_reducible repeat (first | refine blk_drewN ?_ _ | refine blk_drew ?_ | refine blk_alloc ?_ _)); exact BK821.out⟩, ⟨by repeat (first | (with_reducible first | exact HB.out | apply below_alloc | apply pw_below_drewN | apply below_drew1 | refine below_set ?_ GE799.out | refine below_set ?_ GE810.out | refine below_set ?_ GE815.out | refine below_set ?_ GE821.out) | exact HB.out)⟩⟩
            case rest =>
              clear HC60
              try clear c1
              try clear c2
              try clear p2
              try clear c3
              try clear c3b0
              try clear c4
              try clear c5
              try clear c6
              try clear c7
              try clear c8
              try clear c11
              try clear c17
              try clear c19
              try clear c20
              try clear c21
              try clear c22
              try clear c26
              try clear c27
              try clear c32
              try clear c33
              try clear c34
              try clear c38
              try clear c39
              try clear c40
              try clear c41
              try clear c43
              try clear c44
              try clear c47
              try clear c48
              try clear c49
              try clear c51
              try clear c52
              try clear c55
              try clear c58
              try clear c65
              try clear c66
              try clear c67
              try clear c70
              try clear c70b0
              try clear c72
              try clear c73
              try clear c74
              try clear c75
              try clear c77
              try clear c78
              try clear c81
              try clear c82
              try clear c83
              try clear c85
              try clear c86
              try clear hcz13_0
              try clear hcz13_1
              try clear hcz15_0
              try clear hcz15_1
              try clear hcz21_0
              try clear hcz21_1
              try clear hcz23_0
              try clear hcz23_1
              try clear hcz28_0
              try clear hcz28_1
              try clear hcz35_0
              try clear hcz35_1
              try clear hcz42_0
              try clear hcz42_1
              try clear hcz45_0
              try clear hcz45_1
              try clear hcz50_0
              try clear hcz50_1
              try clear hcz53_0
              try clear hcz53_1
              try clear hcz5_0
              try clear hcz5_1
              try clear hcz68_0
              try clear hcz68_1
              try clear hcz76_0
              try clear hcz76_1
              try clear hcz79_0
              try clear hcz79_1
              try clear hcz84_0
              try clear hcz84_1
              try clear hcz87_0
              try clear hcz87_1
              try clear hfz13_0
              try clear hfz13_1
              try clear hfz15_0
              try clear hfz15_1
              try clear hfz21_0
              try clear hfz21_1
              try clear hfz23_0
              try clear hfz23_1
              try clear hfz28_0
              try clear hfz28_1
              try clear hfz35_0
              try clear hfz35_1
              try clear hfz42_0
              try clear hfz42_1
              try clear hfz45_0
              try clear hfz45_1
              try clear hfz50_0
              try clear hfz50_1
              try clear hfz53_0
              try clear hfz53_1
              try clear hfz5_0
              try clear hfz5_1
              try clear hfz68_0
              try clear hfz68_1
              try clear hfz76_0
              try clear hfz76_1
              try clear hfz79_0
              try clear hfz79_1
              try clear hfz84_0
              try clear hfz84_1
              try clear hfz87_0
              try clear hfz87_1
              try clear p2
              obtain ⟨kq, x61_59, rfl, HA, HJ59, HO_811001, HO_816001, HO_822001, BK799, BK810, BK815, BK821, HB⟩ := hcut
              have hl816001_59 := (Kd.R_reads' HO_816001.out).1
              rw [hl816001_59] at HO_816001
              (try simp only [hl816001_59])
              (try simp only [hl816001_59] at BK799)
              (try simp only [hl816001_59] at BK810)
              (try simp only [hl816001_59] at BK815)
              (try simp only [hl816001_59] at BK821)
              (try simp only [hl816001_59] at HO_811001)
              (try simp only [hl816001_59] at HO_822001)
              cases kq with
              | zero => exact absurd HA.out (by simp [laws_FnExactStabilise.j1])
              | succ kj59 =>
                have H := HA.out
                clear HA
                simp only [laws_FnExactStabilise.j1] at H
                by_cases c89 : x61_59 = true
                · subst c89
                  have H1 : (some false) = some r := by rw [if_pos rfl] at H; exact H
                  clear H
                  have H := H1
                  clear H1
                  obtain rfl := Option.some.inj H
                  go_wp2
                  go_ret
                  exact ⟨by first | rfl | (simp [errW_none, errW_some] <;> rfl) | (simp [*, errW_none, errW_some] <;> rfl), by repeat (first | (with_reducible first | exact HB.out | apply below_alloc | apply pw_below_drewN | apply below_drew1 | refine below_set ?_ GE799.out | refine below_set ?_ GE810.out | refine below_set ?_ GE815.out | refine below_set ?_ GE821.out) | exact HB.out)⟩
                · replace c89 := Bool.eq_false_iff.mpr c89
                  subst c89
                  have H1 : ((laws_markMatrix.f kj59 t816 t817 1).bind fun bt831 => ((laws_heldMatrix.f kj59 t816 bt831.2 1).bind fun t833 => (if t833 < 0 then (some false) else (if t833 = bt831.1 then ((laws_toMatrix.f kj59 a0_0 l0_1).bind fun bt834 => ((impl_Stabilise.f kj59 bt834.1 bt834.2).bind fun bt838 => ((laws_eqMatrix.f kj59 bt838.1 bt838.2.1 t805 t806).bind fun t844 => (if t844 = true then (laws_FnExactStabilise.j2 kj59 bt831.1 (bt838.2.2 != t809) t816 bt831.2) else (laws_FnExactStabilise.j2 kj59 bt831.1 true t816 bt831.2))))) else (some false))))) = some r := by rw [if_neg (show ¬ (false = true) by decide)] at H; exact H
                  clear H
                  have H := H1
                  clear H1
                  replace H := Option.bind_eq_some_iff.mp H
                  obtain ⟨⟨t831, t832⟩, A900, H⟩ := H
                  replace H : ((laws_heldMatrix.f kj59 t816 t832 1).bind fun t833 => (if t833 < 0 then (some false) else (if t833 = t831 then ((laws_toMatrix.f kj59 a0_0 l0_1).bind fun bt834 => ((impl_Stabilise.f kj59 bt834.1 bt834.2).bind fun bt838 => ((laws_eqMatrix.f kj59 bt838.1 bt838.2.1 t805 t806).bind fun t844 => (if t844 = true then (laws_FnExactStabilise.j2 kj59 t831 (bt838.2.2 != t809) t816 t832) else (laws_FnExactStabilise.j2 kj59 t831 true t816 t832))))) else (some false)))) = some r := H
                  have A90 := Aside0.mk A900
                  clear A900
                  replace H := Option.bind_eq_some_iff.mp H
                  obtain ⟨t833, A910, H⟩ := H
                  replace H : (if t833 < 0 then (some false) else (if t833 = t831 then ((laws_toMatrix.f kj59 a0_0 l0_1).bind fun bt834 => ((impl_Stabilise.f kj59 bt834.1 bt834.2).bind fun bt838 => ((laws_eqMatrix.f kj59 bt838.1 bt838.2.1 t805 t806).bind fun t844 => (if t844 = true then (laws_FnExactStabilise.j2 kj59 t831 (bt838.2.2 != t809) t816 t832) else (laws_FnExactStabilise.j2 kj59 t831 true t816 t832))))) else (some false))) = some r := H
                  have A91 := Aside0.mk A910
                  clear A910
                  by_cases c92 : t833 < 0
                  · rw [if_pos c92] at H
                    have c92b0 : decide (t833 < 0) = true := decide_eq_true c92
                    clear c92
                    obtain rfl := Option.some.inj H
                    have hnb93 := NB821_799.out
                    have hnc93 := NB799_821.out
                    have hnb94 := NB821_810.out
                    have hnc94 := NB810_821.out
                    have hnb95 := NB821_815.out
                    have hnc95 := NB815_821.out
                    have hcz96_0 : wc.cell? ⟨gb821, 0, none⟩ = some (.int .i64 t816) := (blk_cell BK821.out 0).trans rfl
                    have hcz96_1 : wc.cell? ⟨gb821, 1, none⟩ = some (.slice Ao36 t817.length co36) := (blk_cell BK821.out 1).trans rfl
                    have hfz96_0 := blk_frozen BK821.out 0
                    have hfz96_1 := blk_frozen BK821.out 1
                    go_wp2_with (first | ((with_reducible refine gate_callee (f := 22) rfl ?_); refine goesL_ (some 64) rfl rfl Try.func22 (by kernel_rfl) rfl #[.agg #[.int .i64 t816, .slice Ao36 t817.length co36], .int .i64 1] rfl (by (try simp only [List.map_toArray, List.map_cons, List.map_nil]); first | done | rfl | (simp only [List.length_drop, List.length_take]; rfl)) ?_; (with_reducible refine (laws_markMatrix.calls kj59 t816 (fun k_ => some k_ = (.slice Ao36 t817.length co36 : Value).ownBlock) (.slice Ao36 t817.length co36) t817 1 t831 t832 w _ ?side1 ?side2 A90.out).mono ?_); (case side1 => repeat (first | (with_reducible first | exact HB.out | apply below_alloc | apply pw_below_drewN | apply below_drew1 | refine below_set ?_ GE799.out | refine below_set ?_ GE810.out | refine below_set ?_ GE815.out | refine below_set ?_ GE821.out) | exact HB.out)); (case side2 => exact Kd.R_tight rfl HO_822001.out); rintro e w97 ⟨rfl, hy0, hb, hkp⟩; refine ⟨_, rfl, ?_⟩; have n0_ := Aside0.mk (Kd.R_mono (ok' := fun k_ => some k_ ≠ (.slice Ao29 t829.length co29 : Value).ownBlock ∧ some k_ ≠ (.slice Ao36 t817.length co36 : Value).ownBlock) (Kd.R_keptB (HO_811001.out) hkp (fun k_ hk_ hs_ => (hk_.2) hs_)) (fun k_ hk_ => ⟨hk_.1.1, hk_.1.2⟩)); have n1_ := Aside0.mk (Kd.R_mono (ok' := fun k_ => some k_ ≠ (.slice Ao22 t806.length co22 : Value).ownBlock ∧ some k_ ≠ (.slice Ao36 t817.length co36 : Value).ownBlock) (Kd.R_keptB (HO_816001.out) hkp (fun k_ hk_ hs_ => (hk_.2) hs_)) (fun k_ hk_ => ⟨hk_.1.1, hk_.1.2⟩)); have n2_ := Aside0.mk (Kd.R_reok rfl hy0 (fun k_ e_ => HO_822001.out.1 k_ e_)); have n3_ := Aside0.mk (blk_kept (by (with_reducible repeat (first | refine blk_drewN ?_ _ | refine blk_drew ?_ | refine blk_alloc ?_ _)); exact BK799.out) hkp (fun hs_ => (fun e_ => (Kd.R_ne HO_822001.out BK799.out (by decide)) e_) hs_)); have n4_ := Aside0.mk (blk_kept (by (with_reducible repeat (first | refine blk_drewN ?_ _ | refine blk_drew ?_ | refine blk_alloc ?_ _)); exact BK810.out) hkp (fun hs_ => (fun e_ => (Kd.R_ne HO_822001.out BK810.out (by decide)) e_) hs_)); have n5_ := Aside0.mk (blk_kept (by (with_reducible repeat (first | refine blk_drewN ?_ _ | refine blk_drew ?_ | refine blk_alloc ?_ _)); exact BK815.out) hkp (fun hs_ => (fun e_ => (Kd.R_ne HO_822001.out BK815.out (by decide)) e_) hs_)); have n6_ := Aside0.mk (blk_kept (by (with_reducible repeat (first | refine blk_drewN ?_ _ | refine blk_drew ?_ | refine blk_alloc ?_ _)); exact BK821.out) hkp (fun hs_ => (fun e_ => (Kd.R_ne HO_822001.out BK821.out (by decide)) e_) hs_)); have n7_ := Aside0.mk (hb); clear HO_811001; clear HO_816001; clear HO_822001; clear BK799; clear BK810; clear BK815; clear BK821; clear HB; have HO_811001 := n0_; have HO_816001 := n1_; have HO_822001 := n2_; have BK799 := n3_; have BK810 := n4_; have BK815 := n5_; have BK821 := n6_; have HB := n7_; clear n0_ n1_ n2_ n3_ n4_ n5_ n6_ n7_; (try clear hb); (try clear hkp); (try clear hy0); have hcz98_0 : w97.cell? ⟨gb821, 0, none⟩ = some (.int .i64 t816) := (blk_cell BK821.out 0).trans rfl; have hcz98_1 : w97.cell? ⟨gb821, 1, none⟩ = some (.slice Ao36 t817.length co36) := (blk_cell BK821.out 1).trans rfl; have hfz98_0 := blk_frozen BK821.out 0; have hfz98_1 := blk_frozen BK821.out 1) | ((with_reducible refine gate_callee (f := 23) rfl ?_); refine goesL_ (some 67) rfl rfl Try.func23 (by kernel_rfl) rfl #[.agg #[.int .i64 t816, .slice Ao36 t832.length co36], .int .i64 1] rfl (by (try simp only [List.map_toArray, List.map_cons, List.map_nil]); first | done | (rw [show t832.length = t817.length from (Kd.R_reads' HO_822001.out).1.symm] <;> rfl) | rfl | (simp only [List.length_drop, List.length_take]; rfl)) ?_; (with_reducible refine (laws_heldMatrix.calls kj59 t816 _ _ t832 1 t833 _ ?side1 ?side2 A91.out).mono ?_); (case side1 => repeat (first | exact (Kd.R_reads' HO_822001.out).2.2 | (with_reducible refine Kd.C_alloc ?_ _) | (with_reducible refine Kd.C_drewN ?_ _) | (with_reducible refine Kd.C_drew ?_))); (case side2 => rw [show t832.length = t817.length from (Kd.R_reads' HO_822001.out).1.symm]; exact (Kd.R_reads' HO_822001.out).2.1); rintro e w99 ⟨rfl, hb⟩; refine ⟨_, rfl, ?_⟩; have n0_ := Aside0.mk (Kd.R_below (by (with_reducible repeat (first | apply Kd.R_alloc | apply Kd.R_drewN | apply Kd.R_drew)); exact HO_811001.out) hb); have n1_ := Aside0.mk (Kd.R_below (by (with_reducible repeat (first | apply Kd.R_alloc | apply Kd.R_drewN | apply Kd.R_drew)); exact HO_816001.out) hb); have n2_ := Aside0.mk (Kd.R_below (by (with_reducible repeat (first | apply Kd.R_alloc | apply Kd.R_drewN | apply Kd.R_drew)); exact HO_822001.out) hb); have n3_ := Aside0.mk (blk_below (g := gb799) (o := .cells #[.int .i64 a0_0, .slice A0_1 l0_1.length c0_1] 26 (0, 0)) (by (with_reducible repeat (first | refine blk_drewN ?_ _ | refine blk_drew ?_ | refine blk_alloc ?_ _)); exact BK799.out) hb); have n4_ := Aside0.mk (blk_below (g := gb810) (o := .cells #[.int .i64 t805, .slice Ao22 t806.length co22] 28 (0, 0)) (by (with_reducible repeat (first | refine blk_drewN ?_ _ | refine blk_drew ?_ | refine blk_alloc ?_ _)); exact BK810.out) hb); have n5_ := Aside0.mk (blk_below (g := gb815) (o := .cells #[.int .i64 t811, .slice Ao29 t829.length co29] 28 (0, 0)) (by (with_reducible repeat (first | refine blk_drewN ?_ _ | refine blk_drew ?_ | refine blk_alloc ?_ _)); exact BK815.out) hb); have n6_ := Aside0.mk (blk_below (g := gb821) (o := .cells #[.int .i64 t816, .slice Ao36 t817.length co36] 28 (0, 0)) (by (with_reducible repeat (first | refine blk_drewN ?_ _ | refine blk_drew ?_ | refine blk_alloc ?_ _)); exact BK821.out) hb); have n7_ := Aside0.mk (below_step (by repeat (first | (with_reducible first | exact HB.out | apply below_alloc | apply pw_below_drewN | apply below_drew1 | refine below_set ?_ GE799.out | refine below_set ?_ GE810.out | refine below_set ?_ GE815.out | refine below_set ?_ GE821.out) | exact HB.out)) hb); clear HO_811001; clear HO_816001; clear HO_822001; clear BK799; clear BK810; clear BK815; clear BK821; clear HB; have HO_811001 := n0_; have HO_816001 := n1_; have HO_822001 := n2_; have BK799 := n3_; have BK810 := n4_; have BK815 := n5_; have BK821 := n6_; have HB := n7_; clear n0_ n1_ n2_ n3_ n4_ n5_ n6_ n7_; (try clear hb); (try clear hb2); (try clear hk); (try clear hi)))
                    go_ret
                    exact ⟨by first | rfl | (simp [errW_none, errW_some] <;> rfl) | (simp [*, errW_none, errW_some] <;> rfl), by repeat (first | (with_reducible first | exact HB.out | apply below_alloc | apply pw_below_drewN | apply below_drew1 | refine below_set ?_ GE799.out | refine below_set ?_ GE810.out | refine below_set ?_ GE815.out | refine below_set ?_ GE821.out) | exact HB.out)⟩
                  · rw [if_neg c92] at H
                    have c92b0 : decide (t833 < 0) = false := decide_eq_false c92
                    clear c92
                    by_cases c100 : t833 = t831
                    · rw [if_pos c100] at H
                      have c100b0 : (t833 == t831) = true := beq_iff_eq.mpr c100
                      have c100b1 : (t833 != t831) = false := bne_eq_false_iff_eq.mpr c100
                      clear c100
                      replace H := Option.bind_eq_some_iff.mp H
                      obtain ⟨⟨t834, t835⟩, A1010, H⟩ := H
                      replace H : ((impl_Stabilise.f kj59 t834 t835).bind fun bt838 => ((laws_eqMatrix.f kj59 bt838.1 bt838.2.1 t805 t806).bind fun t844 => (if t844 = true then (laws_FnExactStabilise.j2 kj59 t831 (bt838.2.2 != t809) t816 t832) else (laws_FnExactStabilise.j2 kj59 t831 true t816 t832)))) = some r := H
                      have A101 := Aside0.mk A1010
                      clear A1010
                      replace H := Option.bind_eq_some_iff.mp H
                      obtain ⟨⟨t838, t839, t842⟩, A1020, H⟩ := H
                      replace H : ((laws_eqMatrix.f kj59 t838 t839 t805 t806).bind fun t844 => (if t844 = true then (laws_FnExactStabilise.j2 kj59 t831 (t842 != t809) t816 t832) else (laws_FnExactStabilise.j2 kj59 t831 true t816 t832))) = some r := H
                      have A102 := Aside0.mk A1020
                      clear A1020
                      have HC103 := Aside0.mk H
                      clear H
                      have hnb104 := NB821_799.out
                      have hnc104 := NB799_821.out
                      have hnb105 := NB821_810.out
                      have hnc105 := NB810_821.out
                      have hnb106 := NB821_815.out
                      have hnc106 := NB815_821.out
                      have hcz107_0 : wc.cell? ⟨gb821, 0, none⟩ = some (.int .i64 t816) := (blk_cell BK821.out 0).trans rfl
                      have hcz107_1 : wc.cell? ⟨gb821, 1, none⟩ = some (.slice Ao36 t817.length co36) := (blk_cell BK821.out 1).trans rfl
                      have hfz107_0 := blk_frozen BK821.out 0
                      have hfz107_1 := blk_frozen BK821.out 1
                      go_upto_region 25 with (first | ((with_reducible refine gate_callee (f := 22) rfl ?_); refine goesL_ (some 64) rfl rfl Try.func22 (by kernel_rfl) rfl #[.agg #[.int .i64 t816, .slice Ao36 t817.length co36], .int .i64 1] rfl (by (try simp only [List.map_toArray, List.map_cons, List.map_nil]); first | done | rfl | (simp only [List.length_drop, List.length_take]; rfl)) ?_; (with_reducible refine (laws_markMatrix.calls kj59 t816 (fun k_ => some k_ = (.slice Ao36 t817.length co36 : Value).ownBlock) (.slice Ao36 t817.length co36) t817 1 t831 t832 w _ ?side1 ?side2 A90.out).mono ?_); (case side1 => repeat (first | (with_reducible first | exact HB.out | apply below_alloc | apply pw_below_drewN | apply below_drew1 | refine below_set ?_ GE799.out | refine below_set ?_ GE810.out | refine below_set ?_ GE815.out | refine below_set ?_ GE821.out) | exact HB.out)); (case side2 => exact Kd.R_tight rfl HO_822001.out); rintro e w108 ⟨rfl, hy0, hb, hkp⟩; refine ⟨_, rfl, ?_⟩; have n0_ := Aside0.mk (Kd.R_mono (ok' := fun k_ => some k_ ≠ (.slice Ao29 t829.length co29 : Value).ownBlock ∧ some k_ ≠ (.slice Ao36 t817.length co36 : Value).ownBlock) (Kd.R_keptB (HO_811001.out) hkp (fun k_ hk_ hs_ => (hk_.2) hs_)) (fun k_ hk_ => ⟨hk_.1.1, hk_.1.2⟩)); have n1_ := Aside0.mk (Kd.R_mono (ok' := fun k_ => some k_ ≠ (.slice Ao22 t806.length co22 : Value).ownBlock ∧ some k_ ≠ (.slice Ao36 t817.length co36 : Value).ownBlock) (Kd.R_keptB (HO_816001.out) hkp (fun k_ hk_ hs_ => (hk_.2) hs_)) (fun k_ hk_ => ⟨hk_.1.1, hk_.1.2⟩)); have n2_ := Aside0.mk (Kd.R_reok rfl hy0 (fun k_ e_ => HO_822001.out.1 k_ e_)); have n3_ := Aside0.mk (blk_kept (by (with_reducible repeat (first | refine blk_drewN ?_ _ | refine blk_drew ?_ | refine blk_alloc ?_ _)); exact BK799.out) hkp (fun hs_ => (fun e_ => (Kd.R_ne HO_822001.out BK799.out (by decide)) e_) hs_)); have n4_ := Aside0.mk (blk_kept (by (with_reducible repeat (first | refine blk_drewN ?_ _ | refine blk_drew ?_ | refine blk_alloc ?_ _)); exact BK810.out) hkp (fun hs_ => (fun e_ => (Kd.R_ne HO_822001.out BK810.out (by decide)) e_) hs_)); have n5_ := Aside0.mk (blk_kept (by (with_reducible repeat (first | refine blk_drewN ?_ _ | refine blk_drew ?_ | refine blk_alloc ?_ _)); exact BK815.out) hkp (fun hs_ => (fun e_ => (Kd.R_ne HO_822001.out BK815.out (by decide)) e_) hs_)); have n6_ := Aside0.mk (blk_kept (by (with_reducible repeat (first | refine blk_drewN ?_ _ | refine blk_drew ?_ | refine blk_alloc ?_ _)); exact BK821.out) hkp (fun hs_ => (fun e_ => (Kd.R_ne HO_822001.out BK821.out (by decide)) e_) hs_)); have n7_ := Aside0.mk (hb); clear HO_811001; clear HO_816001; clear HO_822001; clear BK799; clear BK810; clear BK815; clear BK821; clear HB; have HO_811001 := n0_; have HO_816001 := n1_; have HO_822001 := n2_; have BK799 := n3_; have BK810 := n4_; have BK815 := n5_; have BK821 := n6_; have HB := n7_; clear n0_ n1_ n2_ n3_ n4_ n5_ n6_ n7_; (try clear hb); (try clear hkp); (try clear hy0); have hcz109_0 : w108.cell? ⟨gb821, 0, none⟩ = some (.int .i64 t816) := (blk_cell BK821.out 0).trans rfl; have hcz109_1 : w108.cell? ⟨gb821, 1, none⟩ = some (.slice Ao36 t817.length co36) := (blk_cell BK821.out 1).trans rfl; have hfz109_0 := blk_frozen BK821.out 0; have hfz109_1 := blk_frozen BK821.out 1) | ((with_reducible refine gate_callee (f := 23) rfl ?_); refine goesL_ (some 67) rfl rfl Try.func23 (by kernel_rfl) rfl #[.agg #[.int .i64 t816, .slice Ao36 t832.length co36], .int .i64 1] rfl (by (try simp only [List.map_toArray, List.map_cons, List.map_nil]); first | done | (rw [show t832.length = t817.length from (Kd.R_reads' HO_822001.out).1.symm] <;> rfl) | rfl | (simp only [List.length_drop, List.length_take]; rfl)) ?_; (with_reducible refine (laws_heldMatrix.calls kj59 t816 _ _ t832 1 t833 _ ?side1 ?side2 A91.out).mono ?_); (case side1 => repeat (first | exact (Kd.R_reads' HO_822001.out).2.2 | (with_reducible refine Kd.C_alloc ?_ _) | (with_reducible refine Kd.C_drewN ?_ _) | (with_reducible refine Kd.C_drew ?_))); (case side2 => rw [show t832.length = t817.length from (Kd.R_reads' HO_822001.out).1.symm]; exact (Kd.R_reads' HO_822001.out).2.1); rintro e w110 ⟨rfl, hb⟩; refine ⟨_, rfl, ?_⟩; have n0_ := Aside0.mk (Kd.R_below (by (with_reducible repeat (first | apply Kd.R_alloc | apply Kd.R_drewN | apply Kd.R_drew)); exact HO_811001.out) hb); have n1_ := Aside0.mk (Kd.R_below (by (with_reducible repeat (first | apply Kd.R_alloc | apply Kd.R_drewN | apply Kd.R_drew)); exact HO_816001.out) hb); have n2_ := Aside0.mk (Kd.R_below (by (with_reducible repeat (first | apply Kd.R_alloc | apply Kd.R_drewN | apply Kd.R_drew)); exact HO_822001.out) hb); have n3_ := Aside0.mk (blk_below (g := gb799) (o := .cells #[.int .i64 a0_0, .slice A0_1 l0_1.length c0_1] 26 (0, 0)) (by (with_reducible repeat (first | refine blk_drewN ?_ _ | refine blk_drew ?_ | refine blk_alloc ?_ _)); exact BK799.out) hb); have n4_ := Aside0.mk (blk_below (g := gb810) (o := .cells #[.int .i64 t805, .slice Ao22 t806.length co22] 28 (0, 0)) (by (with_reducible repeat (first | refine blk_drewN ?_ _ | refine blk_drew ?_ | refine blk_alloc ?_ _)); exact BK810.out) hb); have n5_ := Aside0.mk (blk_below (g := gb815) (o := .cells #[.int .i64 t811, .slice Ao29 t829.length co29] 28 (0, 0)) (by (with_reducible repeat (first | refine blk_drewN ?_ _ | refine blk_drew ?_ | refine blk_alloc ?_ _)); exact BK815.out) hb); have n6_ := Aside0.mk (blk_below (g := gb821) (o := .cells #[.int .i64 t816, .slice Ao36 t817.length co36] 28 (0, 0)) (by (with_reducible repeat (first | refine blk_drewN ?_ _ | refine blk_drew ?_ | refine blk_alloc ?_ _)); exact BK821.out) hb); have n7_ := Aside0.mk (below_step (by repeat (first | (with_reducible first | exact HB.out | apply below_alloc | apply pw_below_drewN | apply below_drew1 | refine below_set ?_ GE799.out | refine below_set ?_ GE810.out | refine below_set ?_ GE815.out | refine below_set ?_ GE821.out) | exact HB.out)) hb); clear HO_811001; clear HO_816001; clear HO_822001; clear BK799; clear BK810; clear BK815; clear BK821; clear HB; have HO_811001 := n0_; have HO_816001 := n1_; have HO_822001 := n2_; have BK799 := n3_; have BK810 := n4_; have BK815 := n5_; have BK821 := n6_; have HB := n7_; clear n0_ n1_ n2_ n3_ n4_ n5_ n6_ n7_; (try clear hb); (try clear hb2); (try clear hk); (try clear hi); have hnb111 := NB799_810.out; have hnc111 := NB810_799.out; have hnb112 := NB799_815.out; have hnc112 := NB815_799.out; have hcz113_0 : w110.cell? ⟨gb799, 0, none⟩ = some (.int .i64 a0_0) := (blk_cell BK799.out 0).trans rfl; have hcz113_1 : w110.cell? ⟨gb799, 1, none⟩ = some (.slice A0_1 l0_1.length c0_1) := (blk_cell BK799.out 1).trans rfl; have hfz113_0 := blk_frozen BK799.out 0; have hfz113_1 := blk_frozen BK799.out 1) | ((with_reducible refine gate_callee (f := 19) rfl ?_); refine goesL_ (some 75) rfl rfl Try.func19 (by kernel_rfl) rfl #[.agg #[.int .i64 a0_0, .slice A0_1 l0_1.length c0_1]] rfl (by (try simp only [List.map_toArray, List.map_cons, List.map_nil]); first | done | rfl | (simp only [List.length_drop, List.length_take]; rfl)) ?_; (with_reducible refine (laws_toMatrix.calls kj59 a0_0 _ _ l0_1 t834 t835 _ ?side1 ?side2 A101.out).mono ?_); (case side1 => repeat (first | exact (Kd.C_below HR0_1.out HB.out) | (with_reducible refine Kd.C_alloc ?_ _) | (with_reducible refine Kd.C_drewN ?_ _) | (with_reducible refine Kd.C_drew ?_))); (case side2 => exact HC0_1.out); rintro e w114 ⟨v836, rfl, ho0, hb⟩; refine ⟨_, rfl, ?_⟩; have n0_ := Aside0.mk (Kd.R_elder' (by (with_reducible repeat (first | apply Kd.R_alloc | apply Kd.R_drewN | apply Kd.R_drew)); exact HO_811001.out) (Kd.R_base ho0) hb); have n1_ := Aside0.mk (Kd.R_elder' (by (with_reducible repeat (first | apply Kd.R_alloc | apply Kd.R_drewN | apply Kd.R_drew)); exact HO_816001.out) (Kd.R_base ho0) hb); have n2_ := Aside0.mk (Kd.R_elder' (by (with_reducible repeat (first | apply Kd.R_alloc | apply Kd.R_drewN | apply Kd.R_drew)); exact HO_822001.out) (Kd.R_base ho0) hb); have n3_ := Aside0.mk (Kd.R_lower (Kd.R_new' (Kd.R_new' (Kd.R_new' ho0 (Kd.R_lt (by (with_reducible repeat (first | apply Kd.R_alloc | apply Kd.R_drewN | apply Kd.R_drew)); exact HO_811001.out))) (Kd.R_lt (by (with_reducible repeat (first | apply Kd.R_alloc | apply Kd.R_drewN | apply Kd.R_drew)); exact HO_816001.out))) (Kd.R_lt (by (with_reducible repeat (first | apply Kd.R_alloc | apply Kd.R_drewN | apply Kd.R_drew)); exact HO_822001.out))) (below_size (by repeat (first | (with_reducible first | exact HB.out | apply below_alloc | apply pw_below_drewN | apply below_drew1 | refine below_set ?_ GE799.out | refine below_set ?_ GE810.out | refine below_set ?_ GE815.out | refine below_set ?_ GE821.out) | exact HB.out)))); have n4_ := Aside0.mk (blk_below (g := gb799) (o := .cells #[.int .i64 a0_0, .slice A0_1 l0_1.length c0_1] 26 (0, 0)) (by (with_reducible repeat (first | refine blk_drewN ?_ _ | refine blk_drew ?_ | refine blk_alloc ?_ _)); exact BK799.out) hb); have n5_ := Aside0.mk (blk_below (g := gb810) (o := .cells #[.int .i64 t805, .slice Ao22 t806.length co22] 28 (0, 0)) (by (with_reducible repeat (first | refine blk_drewN ?_ _ | refine blk_drew ?_ | refine blk_alloc ?_ _)); exact BK810.out) hb); have n6_ := Aside0.mk (blk_below (g := gb815) (o := .cells #[.int .i64 t811, .slice Ao29 t829.length co29] 28 (0, 0)) (by (with_reducible repeat (first | refine blk_drewN ?_ _ | refine blk_drew ?_ | refine blk_alloc ?_ _)); exact BK815.out) hb); have n7_ := Aside0.mk (blk_below (g := gb821) (o := .cells #[.int .i64 t816, .slice Ao36 t817.length co36] 28 (0, 0)) (by (with_reducible repeat (first | refine blk_drewN ?_ _ | refine blk_drew ?_ | refine blk_alloc ?_ _)); exact BK821.out) hb); have n8_ := Aside0.mk (below_step (by repeat (first | (with_reducible first | exact HB.out | apply below_alloc | apply pw_below_drewN | apply below_drew1 | refine below_set ?_ GE799.out | refine below_set ?_ GE810.out | refine below_set ?_ GE815.out | refine below_set ?_ GE821.out) | exact HB.out)) hb); clear HO_811001; clear HO_816001; clear HO_822001; clear BK799; clear BK810; clear BK815; clear BK821; clear HB; have HO_811001 := n0_; have HO_816001 := n1_; have HO_822001 := n2_; have HO837 := n3_; have BK799 := n4_; have BK810 := n5_; have BK815 := n6_; have BK821 := n7_; have HB := n8_; clear n0_ n1_ n2_ n3_ n4_ n5_ n6_ n7_ n8_; (try clear hb); (try clear hb2); (try clear hk); (try clear hi); (try clear ho0); obtain ⟨Ao115, co115, eo115⟩ := Kd.R_slice HO837.out; subst eo115) | ((with_reducible refine gate_callee (f := 39) rfl ?_); refine goesL_ (some 76) rfl rfl Try.func39 (by kernel_rfl) rfl #[.agg #[.int .i64 t834, .slice Ao115 t835.length co115]] rfl (by (try simp only [List.map_toArray, List.map_cons, List.map_nil]); first | done | rfl | (simp only [List.length_drop, List.length_take]; rfl)) ?_; (with_reducible refine (impl_Stabilise.calls kj59 t834 _ _ t835 t838 t839 t842 _ ?side1 ?side2 A102.out).mono ?_); (case side1 => repeat (first | exact (Kd.R_reads' HO837.out).2.2 | (with_reducible refine Kd.C_alloc ?_ _) | (with_reducible refine Kd.C_drewN ?_ _) | (with_reducible refine Kd.C_drew ?_))); (case side2 => exact (Kd.R_reads' HO837.out).2.1); rintro e w116 ⟨v840, rfl, ho0, hb⟩; refine ⟨_, rfl, ?_⟩; have n0_ := Aside0.mk (Kd.R_elder' (by (with_reducible repeat (first | apply Kd.R_alloc | apply Kd.R_drewN | apply Kd.R_drew)); exact HO_811001.out) (Kd.R_base ho0) hb); have n1_ := Aside0.mk (Kd.R_elder' (by (with_reducible repeat (first | apply Kd.R_alloc | apply Kd.R_drewN | apply Kd.R_drew)); exact HO_816001.out) (Kd.R_base ho0) hb); have n2_ := Aside0.mk (Kd.R_elder' (by (with_reducible repeat (first | apply Kd.R_alloc | apply Kd.R_drewN | apply Kd.R_drew)); exact HO_822001.out) (Kd.R_base ho0) hb); have n3_ := Aside0.mk (Kd.R_elder' (by (with_reducible repeat (first | apply Kd.R_alloc | apply Kd.R_drewN | apply Kd.R_drew)); exact HO837.out) (Kd.R_base ho0) hb); have n4_ := Aside0.mk (Kd.R_lower (Kd.R_new' (Kd.R_new' (Kd.R_new' (Kd.R_new' ho0 (Kd.R_lt (by (with_reducible repeat (first | apply Kd.R_alloc | apply Kd.R_drewN | apply Kd.R_drew)); exact HO_811001.out))) (Kd.R_lt (by (with_reducible repeat (first | apply Kd.R_alloc | apply Kd.R_drewN | apply Kd.R_drew)); exact HO_816001.out))) (Kd.R_lt (by (with_reducible repeat (first | apply Kd.R_alloc | apply Kd.R_drewN | apply Kd.R_drew)); exact HO_822001.out))) (Kd.R_lt (by (with_reducible repeat (first | apply Kd.R_alloc | apply Kd.R_drewN | apply Kd.R_drew)); exact HO837.out))) (below_size (by repeat (first | (with_reducible first | exact HB.out | apply below_alloc | apply pw_below_drewN | apply below_drew1 | refine below_set ?_ GE799.out | refine below_set ?_ GE810.out | refine below_set ?_ GE815.out | refine below_set ?_ GE821.out) | exact HB.out)))); have n5_ := Aside0.mk (blk_below (g := gb799) (o := .cells #[.int .i64 a0_0, .slice A0_1 l0_1.length c0_1] 26 (0, 0)) (by (with_reducible repeat (first | refine blk_drewN ?_ _ | refine blk_drew ?_ | refine blk_alloc ?_ _)); exact BK799.out) hb); have n6_ := Aside0.mk (blk_below (g := gb810) (o := .cells #[.int .i64 t805, .slice Ao22 t806.length co22] 28 (0, 0)) (by (with_reducible repeat (first | refine blk_drewN ?_ _ | refine blk_drew ?_ | refine blk_alloc ?_ _)); exact BK810.out) hb); have n7_ := Aside0.mk (blk_below (g := gb815) (o := .cells #[.int .i64 t811, .slice Ao29 t829.length co29] 28 (0, 0)) (by (with_reducible repeat (first | refine blk_drewN ?_ _ | refine blk_drew ?_ | refine blk_alloc ?_ _)); exact BK815.out) hb); have n8_ := Aside0.mk (blk_below (g := gb821) (o := .cells #[.int .i64 t816, .slice Ao36 t817.length co36] 28 (0, 0)) (by (with_reducible repeat (first | refine blk_drewN ?_ _ | refine blk_drew ?_ | refine blk_alloc ?_ _)); exact BK821.out) hb); have n9_ := Aside0.mk (below_step (by repeat (first | (with_reducible first | exact HB.out | apply below_alloc | apply pw_below_drewN | apply below_drew1 | refine below_set ?_ GE799.out | refine below_set ?_ GE810.out | refine below_set ?_ GE815.out | refine below_set ?_ GE821.out) | exact HB.out)) hb); clear HO_811001; clear HO_816001; clear HO_822001; clear HO837; clear BK799; clear BK810; clear BK815; clear BK821; clear HB; have HO_811001 := n0_; have HO_816001 := n1_; have HO_822001 := n2_; have HO837 := n3_; have HO841 := n4_; have BK799 := n5_; have BK810 := n6_; have BK815 := n7_; have BK821 := n8_; have HB := n9_; clear n0_ n1_ n2_ n3_ n4_ n5_ n6_ n7_ n8_ n9_; (try clear hb); (try clear hb2); (try clear hk); (try clear hi); (try clear ho0)) | ((with_reducible refine gate_dst (N := 12) rfl ?_); refine box_event ?hg (N := 12) ?hd (cs := #[.int .i64 0, .slice none 0 0]) (t := 28) ?hr ?_; (case hd => rfl); (case hg => rfl); (case hr => first | (go_simp; done) | (go_simp; rfl)); intro gb843 hg w117 hbox hb; have n0_ := Aside0.mk (Kd.R_below (by (with_reducible repeat (first | apply Kd.R_alloc | apply Kd.R_drewN | apply Kd.R_drew)); exact HO_811001.out) hb); have n1_ := Aside0.mk (Kd.R_below (by (with_reducible repeat (first | apply Kd.R_alloc | apply Kd.R_drewN | apply Kd.R_drew)); exact HO_816001.out) hb); have n2_ := Aside0.mk (Kd.R_below (by (with_reducible repeat (first | apply Kd.R_alloc | apply Kd.R_drewN | apply Kd.R_drew)); exact HO_822001.out) hb); have n3_ := Aside0.mk (Kd.R_below (by (with_reducible repeat (first | apply Kd.R_alloc | apply Kd.R_drewN | apply Kd.R_drew)); exact HO837.out) hb); have n4_ := Aside0.mk (Kd.R_below (by (with_reducible repeat (first | apply Kd.R_alloc | apply Kd.R_drewN | apply Kd.R_drew)); exact HO841.out) hb); have n5_ := Aside0.mk (blk_below (g := gb799) (o := .cells #[.int .i64 a0_0, .slice A0_1 l0_1.length c0_1] 26 (0, 0)) (by (with_reducible repeat (first | refine blk_drewN ?_ _ | refine blk_drew ?_ | refine blk_alloc ?_ _)); exact BK799.out) hb); have n6_ := Aside0.mk (blk_below (g := gb810) (o := .cells #[.int .i64 t805, .slice Ao22 t806.length co22] 28 (0, 0)) (by (with_reducible repeat (first | refine blk_drewN ?_ _ | refine blk_drew ?_ | refine blk_alloc ?_ _)); exact BK810.out) hb); have n7_ := Aside0.mk (blk_below (g := gb815) (o := .cells #[.int .i64 t811, .slice Ao29 t829.length co29] 28 (0, 0)) (by (with_reducible repeat (first | refine blk_drewN ?_ _ | refine blk_drew ?_ | refine blk_alloc ?_ _)); exact BK815.out) hb); have n8_ := Aside0.mk (blk_below (g := gb821) (o := .cells #[.int .i64 t816, .slice Ao36 t817.length co36] 28 (0, 0)) (by (with_reducible repeat (first | refine blk_drewN ?_ _ | refine blk_drew ?_ | refine blk_alloc ?_ _)); exact BK821.out) hb); have n9_ := Aside0.mk (below_step (by repeat (first | (with_reducible first | exact HB.out | apply below_alloc | apply pw_below_drewN | apply below_drew1 | refine below_set ?_ GE799.out | refine below_set ?_ GE810.out | refine below_set ?_ GE815.out | refine below_set ?_ GE821.out) | exact HB.out)) hb); have n10_ := Aside0.mk (hbox); have n11_ := Aside0.mk ((by rw [hg]; exact (below_size (by repeat (first | (with_reducible first | exact HB.out | apply below_alloc | apply pw_below_drewN | apply below_drew1 | refine below_set ?_ GE799.out | refine below_set ?_ GE810.out | refine below_set ?_ GE815.out | refine below_set ?_ GE821.out) | exact HB.out))) : w.heap.size ≤ gb843)); have n12_ := Aside0.mk ((by rw [hg]; exact (below_size (by repeat (first | (with_reducible first | exact HB.out | apply below_alloc | apply pw_below_drewN | apply below_drew1 | refine below_set ?_ GE799.out | refine below_set ?_ GE810.out | refine below_set ?_ GE815.out | refine below_set ?_ GE821.out) | exact HB.out))) : w.heap.size ≤ gb843)); have n13_ := Aside0.mk ((by rw [hg]; exact Nat.ne_of_lt (blk_lt (g := gb799) (o := .cells #[.int .i64 a0_0, .slice A0_1 l0_1.length c0_1] 26 (0, 0)) (by (with_reducible repeat (first | refine blk_drewN ?_ _ | refine blk_drew ?_ | refine blk_alloc ?_ _)); exact BK799.out)) : gb799 ≠ gb843)); have n14_ := Aside0.mk ((by rw [hg]; exact Nat.ne_of_gt (blk_lt (g := gb799) (o := .cells #[.int .i64 a0_0, .slice A0_1 l0_1.length c0_1] 26 (0, 0)) (by (with_reducible repeat (first | refine blk_drewN ?_ _ | refine blk_drew ?_ | refine blk_alloc ?_ _)); exact BK799.out)) : gb843 ≠ gb799)); have n15_ := Aside0.mk ((by rw [hg]; exact Nat.ne_of_lt (blk_lt (g := gb810) (o := .cells #[.int .i64 t805, .slice Ao22 t806.length co22] 28 (0, 0)) (by (with_reducible repeat (first | refine blk_drewN ?_ _ | refine blk_drew ?_ | refine blk_alloc ?_ _)); exact BK810.out)) : gb810 ≠ gb843)); have n16_ := Aside0.mk ((by rw [hg]; exact Nat.ne_of_gt (blk_lt (g := gb810) (o := .cells #[.int .i64 t805, .slice Ao22 t806.length co22] 28 (0, 0)) (by (with_reducible repeat (first | refine blk_drewN ?_ _ | refine blk_drew ?_ | refine blk_alloc ?_ _)); exact BK810.out)) : gb843 ≠ gb810)); have n17_ := Aside0.mk ((by rw [hg]; exact Nat.ne_of_lt (blk_lt (g := gb815) (o := .cells #[.int .i64 t811, .slice Ao29 t829.length co29] 28 (0, 0)) (by (with_reducible repeat (first | refine blk_drewN ?_ _ | refine blk_drew ?_ | refine blk_alloc ?_ _)); exact BK815.out)) : gb815 ≠ gb843)); have n18_ := Aside0.mk ((by rw [hg]; exact Nat.ne_of_gt (blk_lt (g := gb815) (o := .cells #[.int .i64 t811, .slice Ao29 t829.length co29] 28 (0, 0)) (by (with_reducible repeat (first | refine blk_drewN ?_ _ | refine blk_drew ?_ | refine blk_alloc ?_ _)); exact BK815.out)) : gb843 ≠ gb815)); have n19_ := Aside0.mk ((by rw [hg]; exact Nat.ne_of_lt (blk_lt (g := gb821) (o := .cells #[.int .i64 t816, .slice Ao36 t817.length co36] 28 (0, 0)) (by (with_reducible repeat (first | refine blk_drewN ?_ _ | refine blk_drew ?_ | refine blk_alloc ?_ _)); exact BK821.out)) : gb821 ≠ gb843)); have n20_ := Aside0.mk ((by rw [hg]; exact Nat.ne_of_gt (blk_lt (g := gb821) (o := .cells #[.int .i64 t816, .slice Ao36 t817.length co36] 28 (0, 0)) (by (with_reducible repeat (first | refine blk_drewN ?_ _ | refine blk_drew ?_ | refine blk_alloc ?_ _)); exact BK821.out)) : gb843 ≠ gb821)); clear HO_811001; clear HO_816001; clear HO_822001; clear HO837; clear HO841; clear BK799; clear BK810; clear BK815; clear BK821; clear HB; have HO_811001 := n0_; have HO_816001 := n1_; have HO_822001 := n2_; have HO837 := n3_; have HO841 := n4_; have BK799 := n5_; have BK810 := n6_; have BK815 := n7_; have BK821 := n8_; have HB := n9_; have BK843 := n10_; have GW843 := n11_; have GE843 := n12_; have NB799_843 := n13_; have NB843_799 := n14_; have NB810_843 := n15_; have NB843_810 := n16_; have NB815_843 := n17_; have NB843_815 := n18_; have NB821_843 := n19_; have NB843_821 := n20_; clear n0_ n1_ n2_ n3_ n4_ n5_ n6_ n7_ n8_ n9_ n10_ n11_ n12_ n13_ n14_ n15_ n16_ n17_ n18_ n19_ n20_; clear hb hbox hg; have hnb118 := NB843_799.out; have hnc118 := NB799_843.out; have hnb119 := NB843_810.out; have hnc119 := NB810_843.out; have hnb120 := NB843_815.out; have hnc120 := NB815_843.out; have hnb121 := NB843_821.out; have hnc121 := NB821_843.out; have hcz122_0 : w117.cell? ⟨gb843, 0, none⟩ = some (.int .i64 0) := (blk_cell BK843.out 0).trans rfl; have hcz122_1 : w117.cell? ⟨gb843, 1, none⟩ = some (.slice none 0 0) := (blk_cell BK843.out 1).trans rfl; have hfz122_0 := blk_frozen BK843.out 0; have hfz122_1 := blk_frozen BK843.out 1; obtain ⟨Ao123, co123, eo123⟩ := Kd.R_slice HO841.out; subst eo123))
                      (try simp only [Act.put, List.setIfInBounds_toArray, List.set_cons_zero, List.set_cons_succ])
                      go_cut [87] (fun v87 wc => ∃ (kq : Nat) (x87_102 : Bool), v87 = .bool x87_102 ∧ Aside0 (laws_FnExactStabilise.j2 kq t831 x87_102 t816 t832 = some r) ∧ Aside0 (kq ≤ kj59) ∧ Aside0 (Kd.R (Kd.int .i64) 3 wc w.heap.size (fun k_ => some k_ ≠ ((.slice Ao29 t829.length co29) : Value).ownBlock ∧ some k_ ≠ ((.slice Ao36 t817.length co36) : Value).ownBlock ∧ some k_ ≠ ((.slice Ao123 t839.length co123) : Value).ownBlock) (.slice Ao22 t806.length co22) t806) ∧ Aside0 (Kd.R (Kd.int .i64) 3 wc w.heap.size (fun k_ => some k_ ≠ ((.slice Ao22 t806.length co22) : Value).ownBlock ∧ some k_ ≠ ((.slice Ao36 t817.length co36) : Value).ownBlock ∧ some k_ ≠ ((.slice Ao123 t839.length co123) : Value).ownBlock) (.slice Ao29 t829.length co29) t829) ∧ Aside0 (Kd.R (Kd.int .i64) 3 wc w.heap.size (fun k_ => some k_ ≠ ((.slice Ao22 t806.length co22) : Value).ownBlock ∧ some k_ ≠ ((.slice Ao29 t829.length co29) : Value).ownBlock ∧ some k_ ≠ ((.slice Ao123 t839.length co123) : Value).ownBlock) (.slice Ao36 t817.length co36) t832) ∧ Aside0 (Kd.R (Kd.int .i64) 3 wc w.heap.size (fun k_ => some k_ ≠ ((.slice Ao22 t806.length co22) : Value).ownBlock ∧ some k_ ≠ ((.slice Ao29 t829.length co29) : Value).ownBlock ∧ some k_ ≠ ((.slice Ao36 t817.length co36) : Value).ownBlock) (.slice Ao123 t839.length co123) t839) ∧ Aside0 (wc.heap[gb799]? = some (.cells #[.int .i64 a0_0, (.slice A0_1 l0_1.length c0_1)] 26 (0, 0))) ∧ Aside0 (wc.heap[gb810]? = some (.cells #[.int .i64 t805, (.slice Ao22 t806.length co22)] 28 (0, 0))) ∧ Aside0 (wc.heap[gb815]? = some (.cells #[.int .i64 t811, (.slice Ao29 t829.length co29)] 28 (0, 0))) ∧ Aside0 (wc.heap[gb821]? = some (.cells #[.int .i64 t816, (.slice Ao36 t817.length co36)] 28 (0, 0))) ∧ Aside0 (wc.heap[gb843]? = some (.cells #[.int .i64 t838, (.slice Ao123 t839.length co123)] 28 (0, 0))) ∧ Aside0 (Below w.heap.size w wc))
                      case first =>
                        have H := HC103.out
                        clear HC103
                        replace H := Option.bind_eq_some_iff.mp H
                        obtain ⟨t844, A1240, H⟩ := H
                        replace H : (if t844 = true then (laws_FnExactStabilise.j2 kj59 t831 (t842 != t809) t816 t832) else (laws_FnExactStabilise.j2 kj59 t831 true t816 t832)) = some r := H
                        have A124 := Aside0.mk A1240
                        clear A1240
                        by_cases c125 : t844 = true
                        · subst c125
                          have H1 : (laws_FnExactStabilise.j2 kj59 t831 (t842 != t809) t816 t832) = some r := by rw [if_pos rfl] at H; exact H
                          clear H
                          have H := H1
                          clear H1
                          have H' := Aside0.mk H
                          clear H
                          have hnb126 := NB843_799.out
                          have hnc126 := NB799_843.out
                          have hnb127 := NB843_810.out
                          have hnc127 := NB810_843.out
                          have hnb128 := NB843_815.out
                          have hnc128 := NB815_843.out
                          have hnb129 := NB843_821.out
                          have hnc129 := NB821_843.out
                          have hcz130_0 : w117.cell? ⟨gb843, 0, none⟩ = some (.int .i64 0) := (blk_cell BK843.out 0).trans rfl
                          have hcz130_1 : w117.cell? ⟨gb843, 1, none⟩ = some (.slice none 0 0) := (blk_cell BK843.out 1).trans rfl
                          have hfz130_0 := blk_frozen BK843.out 0
                          have hfz130_1 := blk_frozen BK843.out 1
                          have hnb131 := NB810_799.out
                          have hnc131 := NB799_810.out
                          have hnb132 := NB810_815.out
                          have hnc132 := NB815_810.out
                          have hnb133 := NB810_821.out
                          have hnc133 := NB821_810.out
                          have hcz134_0 : w117.cell? ⟨gb810, 0, none⟩ = some (.int .i64 t805) := (blk_cell BK810.out 0).trans rfl
                          have hcz134_1 : w117.cell? ⟨gb810, 1, none⟩ = some (.slice Ao22 t806.length co22) := (blk_cell BK810.out 1).trans rfl
                          have hfz134_0 := blk_frozen BK810.out 0
                          have hfz134_1 := blk_frozen BK810.out 1
                          go_wp2_with (first | ((with_reducible refine gate_callee (f := 21) rfl ?_); refine goesL_ (some 81) rfl rfl Try.func21 (by kernel_rfl) rfl #[.agg #[.int .i64 t838, .slice Ao123 t839.length co123], .agg #[.int .i64 t805, .slice Ao22 t806.length co22]] rfl (by (try simp only [List.map_toArray, List.map_cons, List.map_nil]); first | done | rfl | (simp only [List.length_drop, List.length_take]; rfl)) ?_; (with_reducible refine (laws_eqMatrix.calls kj59 t838 _ _ t839 t805 _ _ t806 true _ ?side1 ?side2 ?side3 ?side4 A124.out).mono ?_); (case side1 => refine (Kd.R_reads' (e := 3) (base := w.heap.size) (ok := fun k_ => ((((True ∧ some k_ ≠ (.slice Ao22 t806.length co22 : Value).ownBlock) ∧ some k_ ≠ (.slice Ao29 t829.length co29 : Value).ownBlock) ∧ some k_ ≠ (.slice Ao36 t817.length co36 : Value).ownBlock) ∧ some k_ ≠ (.slice Ao115 t835.length co115 : Value).ownBlock)) (n := t839.length) (c := co123) ?_).2.2; exact (by (with_reducible repeat (first | apply Kd.R_alloc | apply Kd.R_drewN | apply Kd.R_drew)); exact (Kd.R_mono (Kd.R_far (p := ⟨gb843, 1, none⟩) (Kd.R_far (p := ⟨gb843, 0, none⟩) (Kd.R_types HO841.out BK843.out (by decide)) (fun _ hk => hk.2) (.int .i64 t838)) (fun _ hk => hk.2) (.slice Ao123 t839.length co123)) (fun _ h_ => h_.1)))); (case side2 => exact (Kd.R_reads' HO841.out).2.1); (case side3 => refine (Kd.R_reads' (e := 3) (base := w.heap.size) (ok := fun k_ => (((some k_ ≠ (.slice Ao29 t829.length co29 : Value).ownBlock ∧ some k_ ≠ (.slice Ao36 t817.length co36 : Value).ownBlock) ∧ some k_ ≠ (.slice Ao115 t835.length co115 : Value).ownBlock) ∧ some k_ ≠ (.slice Ao123 t839.length co123 : Value).ownBlock)) (n := t806.length) (c := co22) ?_).2.2; exact (by (with_reducible repeat (first | apply Kd.R_alloc | apply Kd.R_drewN | apply Kd.R_drew)); exact (Kd.R_mono (Kd.R_far (p := ⟨gb843, 1, none⟩) (Kd.R_far (p := ⟨gb843, 0, none⟩) (Kd.R_types HO_811001.out BK843.out (by decide)) (fun _ hk => hk.2) (.int .i64 t838)) (fun _ hk => hk.2) (.slice Ao123 t839.length co123)) (fun _ h_ => h_.1)))); (case side4 => exact (Kd.R_reads' HO_811001.out).2.1); rintro e w135 ⟨rfl, hb⟩; refine ⟨_, rfl, ?_⟩; have n0_ := Aside0.mk (Kd.R_below (by (with_reducible repeat (first | apply Kd.R_alloc | apply Kd.R_drewN | apply Kd.R_drew)); exact (Kd.R_mono (Kd.R_far (p := ⟨gb843, 1, none⟩) (Kd.R_far (p := ⟨gb843, 0, none⟩) (Kd.R_types HO_811001.out BK843.out (by decide)) (fun _ hk => hk.2) (.int .i64 t838)) (fun _ hk => hk.2) (.slice Ao123 t839.length co123)) (fun _ h_ => h_.1))) hb); have n1_ := Aside0.mk (Kd.R_below (by (with_reducible repeat (first | apply Kd.R_alloc | apply Kd.R_drewN | apply Kd.R_drew)); exact (Kd.R_mono (Kd.R_far (p := ⟨gb843, 1, none⟩) (Kd.R_far (p := ⟨gb843, 0, none⟩) (Kd.R_types HO_816001.out BK843.out (by decide)) (fun _ hk => hk.2) (.int .i64 t838)) (fun _ hk => hk.2) (.slice Ao123 t839.length co123)) (fun _ h_ => h_.1))) hb); have n2_ := Aside0.mk (Kd.R_below (by (with_reducible repeat (first | apply Kd.R_alloc | apply Kd.R_drewN | apply Kd.R_drew)); exact (Kd.R_mono (Kd.R_far (p := ⟨gb843, 1, none⟩) (Kd.R_far (p := ⟨gb843, 0, none⟩) (Kd.R_types HO_822001.out BK843.out (by decide)) (fun _ hk => hk.2) (.int .i64 t838)) (fun _ hk => hk.2) (.slice Ao123 t839.length co123)) (fun _ h_ => h_.1))) hb); have n3_ := Aside0.mk (Kd.R_below (by (with_reducible repeat (first | apply Kd.R_alloc | apply Kd.R_drewN | apply Kd.R_drew)); exact (Kd.R_mono (Kd.R_far (p := ⟨gb843, 1, none⟩) (Kd.R_far (p := ⟨gb843, 0, none⟩) (Kd.R_types HO837.out BK843.out (by decide)) (fun _ hk => hk.2) (.int .i64 t838)) (fun _ hk => hk.2) (.slice Ao123 t839.length co123)) (fun _ h_ => h_.1))) hb); have n4_ := Aside0.mk (Kd.R_below (by (with_reducible repeat (first | apply Kd.R_alloc | apply Kd.R_drewN | apply Kd.R_drew)); exact (Kd.R_mono (Kd.R_far (p := ⟨gb843, 1, none⟩) (Kd.R_far (p := ⟨gb843, 0, none⟩) (Kd.R_types HO841.out BK843.out (by decide)) (fun _ hk => hk.2) (.int .i64 t838)) (fun _ hk => hk.2) (.slice Ao123 t839.length co123)) (fun _ h_ => h_.1))) hb); have n5_ := Aside0.mk (blk_below (g := gb799) (o := .cells #[.int .i64 a0_0, .slice A0_1 l0_1.length c0_1] 26 (0, 0)) (by (with_reducible repeat (first | refine blk_drewN ?_ _ | refine blk_drew ?_ | refine blk_alloc ?_ _)); refine blk_far ?_ NB799_843.out _; (with_reducible repeat (first | refine blk_drewN ?_ _ | refine blk_drew ?_ | refine blk_alloc ?_ _)); refine blk_far ?_ NB799_843.out _; (with_reducible repeat (first | refine blk_drewN ?_ _ | refine blk_drew ?_ | refine blk_alloc ?_ _)); exact BK799.out) hb); have n6_ := Aside0.mk (blk_below (g := gb810) (o := .cells #[.int .i64 t805, .slice Ao22 t806.length co22] 28 (0, 0)) (by (with_reducible repeat (first | refine blk_drewN ?_ _ | refine blk_drew ?_ | refine blk_alloc ?_ _)); refine blk_far ?_ NB810_843.out _; (with_reducible repeat (first | refine blk_drewN ?_ _ | refine blk_drew ?_ | refine blk_alloc ?_ _)); refine blk_far ?_ NB810_843.out _; (with_reducible repeat (first | refine blk_drewN ?_ _ | refine blk_drew ?_ | refine blk_alloc ?_ _)); exact BK810.out) hb); have n7_ := Aside0.mk (blk_below (g := gb815) (o := .cells #[.int .i64 t811, .slice Ao29 t829.length co29] 28 (0, 0)) (by (with_reducible repeat (first | refine blk_drewN ?_ _ | refine blk_drew ?_ | refine blk_alloc ?_ _)); refine blk_far ?_ NB815_843.out _; (with_reducible repeat (first | refine blk_drewN ?_ _ | refine blk_drew ?_ | refine blk_alloc ?_ _)); refine blk_far ?_ NB815_843.out _; (with_reducible repeat (first | refine blk_drewN ?_ _ | refine blk_drew ?_ | refine blk_alloc ?_ _)); exact BK815.out) hb); have n8_ := Aside0.mk (blk_below (g := gb821) (o := .cells #[.int .i64 t816, .slice Ao36 t817.length co36] 28 (0, 0)) (by (with_reducible repeat (first | refine blk_drewN ?_ _ | refine blk_drew ?_ | refine blk_alloc ?_ _)); refine blk_far ?_ NB821_843.out _; (with_reducible repeat (first | refine blk_drewN ?_ _ | refine blk_drew ?_ | refine blk_alloc ?_ _)); refine blk_far ?_ NB821_843.out _; (with_reducible repeat (first | refine blk_drewN ?_ _ | refine blk_drew ?_ | refine blk_alloc ?_ _)); exact BK821.out) hb); have n9_ := Aside0.mk (blk_below (g := gb843) (o := .cells #[.int .i64 t838, .slice Ao123 t839.length co123] 28 (0, 0)) (by (with_reducible repeat (first | refine blk_drewN ?_ _ | refine blk_drew ?_ | refine blk_alloc ?_ _)); refine blk_put (cs := #[.int .i64 t838, .slice none 0 0]) ?_ 1 _ rfl; (with_reducible repeat (first | refine blk_drewN ?_ _ | refine blk_drew ?_ | refine blk_alloc ?_ _)); refine blk_put (cs := #[.int .i64 0, .slice none 0 0]) ?_ 0 _ rfl; (with_reducible repeat (first | refine blk_drewN ?_ _ | refine blk_drew ?_ | refine blk_alloc ?_ _)); exact BK843.out) hb); have n10_ := Aside0.mk (below_step (by repeat (first | (with_reducible first | exact HB.out | apply below_alloc | apply pw_below_drewN | apply below_drew1 | refine below_set ?_ GE799.out | refine below_set ?_ GE810.out | refine below_set ?_ GE815.out | refine below_set ?_ GE821.out | refine below_set ?_ GE843.out) | exact HB.out)) hb); clear HO_811001; clear HO_816001; clear HO_822001; clear HO837; clear HO841; clear BK799; clear BK810; clear BK815; clear BK821; clear BK843; clear HB; have HO_811001 := n0_; have HO_816001 := n1_; have HO_822001 := n2_; have HO837 := n3_; have HO841 := n4_; have BK799 := n5_; have BK810 := n6_; have BK815 := n7_; have BK821 := n8_; have BK843 := n9_; have HB := n10_; clear n0_ n1_ n2_ n3_ n4_ n5_ n6_ n7_ n8_ n9_ n10_; (try clear hb); (try clear hb2); (try clear hk); (try clear hi)))
                          go_meet
                          case rel => exact ⟨_, ((t842 != t809)), (by first | rfl | (simp; done) | (simp [*]; done)), H', ⟨by have := HJ10.out; have := HJ59.out; first | omega | exact Nat.le_refl _⟩, ⟨by (try simp only [hl816001_59]); (with_reducible repeat (first | apply Kd.R_alloc | apply Kd.R_drewN | apply Kd.R_drew)); exact Kd.R_mono HO_811001.out (fun _ hk => ⟨hk.1.1.1, ⟨hk.1.1.2, hk.2⟩⟩)⟩, ⟨by (try simp only [hl816001_59]); (with_reducible repeat (first | apply Kd.R_alloc | apply Kd.R_drewN | apply Kd.R_drew)); exact Kd.R_mono HO_816001.out (fun _ hk => ⟨hk.1.1.1, ⟨hk.1.1.2, hk.2⟩⟩)⟩, ⟨by (try simp only [hl816001_59]); (with_reducible repeat (first | apply Kd.R_alloc | apply Kd.R_drewN | apply Kd.R_drew)); exact Kd.R_mono HO_822001.out (fun _ hk => ⟨hk.1.1.1, ⟨hk.1.1.2, hk.2⟩⟩)⟩, ⟨by (try simp only [hl816001_59]); (with_reducible repeat (first | apply Kd.R_alloc | apply Kd.R_drewN | apply Kd.R_drew)); exact Kd.R_mono HO841.out (fun _ hk => ⟨hk.1.1.1.2, ⟨hk.1.1.2, hk.1.2⟩⟩)⟩, ⟨by (try simp only [hl816001_59]); (with_reducible repeat (first | refine blk_drewN ?_ _ | refine blk_drew ?_ | refine blk_alloc ?_ _)); exact BK799.out⟩, ⟨by (try simp only [hl816001_59]); (with_reducible repeat (first | refine blk_drewN ?_ _ | refine blk_drew ?_ | refine blk_alloc ?_ _)); exact BK810.out⟩, ⟨by (try simp only [hl816001_59]); (with_reducible repeat (first | refine blk_drewN ?_ _ | refine blk_drew ?_ | refine blk_alloc ?_ _)); exact BK815.out⟩, ⟨by (try simp only [hl816001_59]); (with_reducible repeat (first | refine blk_drewN ?_ _ | refine blk_drew ?_ | refine blk_alloc ?_ _)); exact BK821.out⟩, ⟨by (try simp only [hl816001_59]); (with_reducible repeat (first | refine blk_drewN ?_ _ | refine blk_drew ?_ | refine blk_alloc ?_ _)); exact BK843.out⟩, ⟨by repeat (first | (with_reducible first | exact HB.out | apply below_alloc | apply pw_below_drewN | apply below_drew1 | refine below_set ?_ GE799.out | refine below_set ?_ GE810.out | refine below_set ?_ GE815.out | refine below_set ?_ GE821.out | refine below_set ?_ GE843.out) | exact HB.out)⟩⟩
                        · replace c125 := Bool.eq_false_iff.mpr c125
                          subst c125
                          have H1 : (laws_FnExactStabilise.j2 kj59 t831 true t816 t832) = some r := by rw [if_neg (show ¬ (false = true) by decide)] at H; exact H
                          clear H
                          have H := H1
                          clear H1
                          have H' := Aside0.mk H
                          clear H
                          have hnb136 := NB843_799.out
                          have hnc136 := NB799_843.out
                          have hnb137 := NB843_810.out
                          have hnc137 := NB810_843.out
                          have hnb138 := NB843_815.out
                          have hnc138 := NB815_843.out
                          have hnb139 := NB843_821.out
                          have hnc139 := NB821_843.out
                          have hcz140_0 : w117.cell? ⟨gb843, 0, none⟩ = some (.int .i64 0) := (blk_cell BK843.out 0).trans rfl
                          have hcz140_1 : w117.cell? ⟨gb843, 1, none⟩ = some (.slice none 0 0) := (blk_cell BK843.out 1).trans rfl
                          have hfz140_0 := blk_frozen BK843.out 0
                          have hfz140_1 := blk_frozen BK843.out 1
                          have hnb141 := NB810_799.out
                          have hnc141 := NB799_810.out
                          have hnb142 := NB810_815.out
                          have hnc142 := NB815_810.out
                          have hnb143 := NB810_821.out
                          have hnc143 := NB821_810.out
                          have hcz144_0 : w117.cell? ⟨gb810, 0, none⟩ = some (.int .i64 t805) := (blk_cell BK810.out 0).trans rfl
                          have hcz144_1 : w117.cell? ⟨gb810, 1, none⟩ = some (.slice Ao22 t806.length co22) := (blk_cell BK810.out 1).trans rfl
                          have hfz144_0 := blk_frozen BK810.out 0
                          have hfz144_1 := blk_frozen BK810.out 1
                          go_wp2_with (first | ((with_reducible refine gate_callee (f := 21) rfl ?_); refine goesL_ (some 81) rfl rfl Try.func21 (by kernel_rfl) rfl #[.agg #[.int .i64 t838, .slice Ao123 t839.length co123], .agg #[.int .i64 t805, .slice Ao22 t806.length co22]] rfl (by (try simp only [List.map_toArray, List.map_cons, List.map_nil]); first | done | rfl | (simp only [List.length_drop, List.length_take]; rfl)) ?_; (with_reducible refine (laws_eqMatrix.calls kj59 t838 _ _ t839 t805 _ _ t806 false _ ?side1 ?side2 ?side3 ?side4 A124.out).mono ?_); (case side1 => refine (Kd.R_reads' (e := 3) (base := w.heap.size) (ok := fun k_ => ((((True ∧ some k_ ≠ (.slice Ao22 t806.length co22 : Value).ownBlock) ∧ some k_ ≠ (.slice Ao29 t829.length co29 : Value).ownBlock) ∧ some k_ ≠ (.slice Ao36 t817.length co36 : Value).ownBlock) ∧ some k_ ≠ (.slice Ao115 t835.length co115 : Value).ownBlock)) (n := t839.length) (c := co123) ?_).2.2; exact (by (with_reducible repeat (first | apply Kd.R_alloc | apply Kd.R_drewN | apply Kd.R_drew)); exact (Kd.R_mono (Kd.R_far (p := ⟨gb843, 1, none⟩) (Kd.R_far (p := ⟨gb843, 0, none⟩) (Kd.R_types HO841.out BK843.out (by decide)) (fun _ hk => hk.2) (.int .i64 t838)) (fun _ hk => hk.2) (.slice Ao123 t839.length co123)) (fun _ h_ => h_.1)))); (case side2 => exact (Kd.R_reads' HO841.out).2.1); (case side3 => refine (Kd.R_reads' (e := 3) (base := w.heap.size) (ok := fun k_ => (((some k_ ≠ (.slice Ao29 t829.length co29 : Value).ownBlock ∧ some k_ ≠ (.slice Ao36 t817.length co36 : Value).ownBlock) ∧ some k_ ≠ (.slice Ao115 t835.length co115 : Value).ownBlock) ∧ some k_ ≠ (.slice Ao123 t839.length co123 : Value).ownBlock)) (n := t806.length) (c := co22) ?_).2.2; exact (by (with_reducible repeat (first | apply Kd.R_alloc | apply Kd.R_drewN | apply Kd.R_drew)); exact (Kd.R_mono (Kd.R_far (p := ⟨gb843, 1, none⟩) (Kd.R_far (p := ⟨gb843, 0, none⟩) (Kd.R_types HO_811001.out BK843.out (by decide)) (fun _ hk => hk.2) (.int .i64 t838)) (fun _ hk => hk.2) (.slice Ao123 t839.length co123)) (fun _ h_ => h_.1)))); (case side4 => exact (Kd.R_reads' HO_811001.out).2.1); rintro e w145 ⟨rfl, hb⟩; refine ⟨_, rfl, ?_⟩; have n0_ := Aside0.mk (Kd.R_below (by (with_reducible repeat (first | apply Kd.R_alloc | apply Kd.R_drewN | apply Kd.R_drew)); exact (Kd.R_mono (Kd.R_far (p := ⟨gb843, 1, none⟩) (Kd.R_far (p := ⟨gb843, 0, none⟩) (Kd.R_types HO_811001.out BK843.out (by decide)) (fun _ hk => hk.2) (.int .i64 t838)) (fun _ hk => hk.2) (.slice Ao123 t839.length co123)) (fun _ h_ => h_.1))) hb); have n1_ := Aside0.mk (Kd.R_below (by (with_reducible repeat (first | apply Kd.R_alloc | apply Kd.R_drewN | apply Kd.R_drew)); exact (Kd.R_mono (Kd.R_far (p := ⟨gb843, 1, none⟩) (Kd.R_far (p := ⟨gb843, 0, none⟩) (Kd.R_types HO_816001.out BK843.out (by decide)) (fun _ hk => hk.2) (.int .i64 t838)) (fun _ hk => hk.2) (.slice Ao123 t839.length co123)) (fun _ h_ => h_.1))) hb); have n2_ := Aside0.mk (Kd.R_below (by (with_reducible repeat (first | apply Kd.R_alloc | apply Kd.R_drewN | apply Kd.R_drew)); exact (Kd.R_mono (Kd.R_far (p := ⟨gb843, 1, none⟩) (Kd.R_far (p := ⟨gb843, 0, none⟩) (Kd.R_types HO_822001.out BK843.out (by decide)) (fun _ hk => hk.2) (.int .i64 t838)) (fun _ hk => hk.2) (.slice Ao123 t839.length co123)) (fun _ h_ => h_.1))) hb); have n3_ := Aside0.mk (Kd.R_below (by (with_reducible repeat (first | apply Kd.R_alloc | apply Kd.R_drewN | apply Kd.R_drew)); exact (Kd.R_mono (Kd.R_far (p := ⟨gb843, 1, none⟩) (Kd.R_far (p := ⟨gb843, 0, none⟩) (Kd.R_types HO837.out BK843.out (by decide)) (fun _ hk => hk.2) (.int .i64 t838)) (fun _ hk => hk.2) (.slice Ao123 t839.length co123)) (fun _ h_ => h_.1))) hb); have n4_ := Aside0.mk (Kd.R_below (by (with_reducible repeat (first | apply Kd.R_alloc | apply Kd.R_drewN | apply Kd.R_drew)); exact (Kd.R_mono (Kd.R_far (p := ⟨gb843, 1, none⟩) (Kd.R_far (p := ⟨gb843, 0, none⟩) (Kd.R_types HO841.out BK843.out (by decide)) (fun _ hk => hk.2) (.int .i64 t838)) (fun _ hk => hk.2) (.slice Ao123 t839.length co123)) (fun _ h_ => h_.1))) hb); have n5_ := Aside0.mk (blk_below (g := gb799) (o := .cells #[.int .i64 a0_0, .slice A0_1 l0_1.length c0_1] 26 (0, 0)) (by (with_reducible repeat (first | refine blk_drewN ?_ _ | refine blk_drew ?_ | refine blk_alloc ?_ _)); refine blk_far ?_ NB799_843.out _; (with_reducible repeat (first | refine blk_drewN ?_ _ | refine blk_drew ?_ | refine blk_alloc ?_ _)); refine blk_far ?_ NB799_843.out _; (with_reducible repeat (first | refine blk_drewN ?_ _ | refine blk_drew ?_ | refine blk_alloc ?_ _)); exact BK799.out) hb); have n6_ := Aside0.mk (blk_below (g := gb810) (o := .cells #[.int .i64 t805, .slice Ao22 t806.length co22] 28 (0, 0)) (by (with_reducible repeat (first | refine blk_drewN ?_ _ | refine blk_drew ?_ | refine blk_alloc ?_ _)); refine blk_far ?_ NB810_843.out _; (with_reducible repeat (first | refine blk_drewN ?_ _ | refine blk_drew ?_ | refine blk_alloc ?_ _)); refine blk_far ?_ NB810_843.out _; (with_reducible repeat (first | refine blk_drewN ?_ _ | refine blk_drew ?_ | refine blk_alloc ?_ _)); exact BK810.out) hb); have n7_ := Aside0.mk (blk_below (g := gb815) (o := .cells #[.int .i64 t811, .slice Ao29 t829.length co29] 28 (0, 0)) (by (with_reducible repeat (first | refine blk_drewN ?_ _ | refine blk_drew ?_ | refine blk_alloc ?_ _)); refine blk_far ?_ NB815_843.out _; (with_reducible repeat (first | refine blk_drewN ?_ _ | refine blk_drew ?_ | refine blk_alloc ?_ _)); refine blk_far ?_ NB815_843.out _; (with_reducible repeat (first | refine blk_drewN ?_ _ | refine blk_drew ?_ | refine blk_alloc ?_ _)); exact BK815.out) hb); have n8_ := Aside0.mk (blk_below (g := gb821) (o := .cells #[.int .i64 t816, .slice Ao36 t817.length co36] 28 (0, 0)) (by (with_reducible repeat (first | refine blk_drewN ?_ _ | refine blk_drew ?_ | refine blk_alloc ?_ _)); refine blk_far ?_ NB821_843.out _; (with_reducible repeat (first | refine blk_drewN ?_ _ | refine blk_drew ?_ | refine blk_alloc ?_ _)); refine blk_far ?_ NB821_843.out _; (with_reducible repeat (first | refine blk_drewN ?_ _ | refine blk_drew ?_ | refine blk_alloc ?_ _)); exact BK821.out) hb); have n9_ := Aside0.mk (blk_below (g := gb843) (o := .cells #[.int .i64 t838, .slice Ao123 t839.length co123] 28 (0, 0)) (by (with_reducible repeat (first | refine blk_drewN ?_ _ | refine blk_drew ?_ | refine blk_alloc ?_ _)); refine blk_put (cs := #[.int .i64 t838, .slice none 0 0]) ?_ 1 _ rfl; (with_reducible repeat (first | refine blk_drewN ?_ _ | refine blk_drew ?_ | refine blk_alloc ?_ _)); refine blk_put (cs := #[.int .i64 0, .slice none 0 0]) ?_ 0 _ rfl; (with_reducible repeat (first | refine blk_drewN ?_ _ | refine blk_drew ?_ | refine blk_alloc ?_ _)); exact BK843.out) hb); have n10_ := Aside0.mk (below_step (by repeat (first | (with_reducible first | exact HB.out | apply below_alloc | apply pw_below_drewN | apply below_drew1 | refine below_set ?_ GE799.out | refine below_set ?_ GE810.out | refine below_set ?_ GE815.out | refine below_set ?_ GE821.out | refine below_set ?_ GE843.out) | exact HB.out)) hb); clear HO_811001; clear HO_816001; clear HO_822001; clear HO837; clear HO841; clear BK799; clear BK810; clear BK815; clear BK821; clear BK843; clear HB; have HO_811001 := n0_; have HO_816001 := n1_; have HO_822001 := n2_; have HO837 := n3_; have HO841 := n4_; have BK799 := n5_; have BK810 := n6_; have BK815 := n7_; have BK821 := n8_; have BK843 := n9_; have HB := n10_; clear n0_ n1_ n2_ n3_ n4_ n5_ n6_ n7_ n8_ n9_ n10_; (try clear hb); (try clear hb2); (try clear hk); (try clear hi)))
                          go_meet
                          case rel => exact ⟨_, (true), (by first | rfl | (simp; done) | (simp [*]; done)), H', ⟨by have := HJ10.out; have := HJ59.out; first | omega | exact Nat.le_refl _⟩, ⟨by (try simp only [hl816001_59]); (with_reducible repeat (first | apply Kd.R_alloc | apply Kd.R_drewN | apply Kd.R_drew)); exact Kd.R_mono HO_811001.out (fun _ hk => ⟨hk.1.1.1, ⟨hk.1.1.2, hk.2⟩⟩)⟩, ⟨by (try simp only [hl816001_59]); (with_reducible repeat (first | apply Kd.R_alloc | apply Kd.R_drewN | apply Kd.R_drew)); exact Kd.R_mono HO_816001.out (fun _ hk => ⟨hk.1.1.1, ⟨hk.1.1.2, hk.2⟩⟩)⟩, ⟨by (try simp only [hl816001_59]); (with_reducible repeat (first | apply Kd.R_alloc | apply Kd.R_drewN | apply Kd.R_drew)); exact Kd.R_mono HO_822001.out (fun _ hk => ⟨hk.1.1.1, ⟨hk.1.1.2, hk.2⟩⟩)⟩, ⟨by (try simp only [hl816001_59]); (with_reducible repeat (first | apply Kd.R_alloc | apply Kd.R_drewN | apply Kd.R_drew)); exact Kd.R_mono HO841.out (fun _ hk => ⟨hk.1.1.1.2, ⟨hk.1.1.2, hk.1.2⟩⟩)⟩, ⟨by (try simp only [hl816001_59]); (with_reducible repeat (first | refine blk_drewN ?_ _ | refine blk_drew ?_ | refine blk_alloc ?_ _)); exact BK799.out⟩, ⟨by (try simp only [hl816001_59]); (with_reducible repeat (first | refine blk_drewN ?_ _ | refine blk_drew ?_ | refine blk_alloc ?_ _)); exact BK810.out⟩, ⟨by (try simp only [hl816001_59]); (with_reducible repeat (first | refine blk_drewN ?_ _ | refine blk_drew ?_ | refine blk_alloc ?_ _)); exact BK815.out⟩, ⟨by (try simp only [hl816001_59]); (with_reducible repeat (first | refine blk_drewN ?_ _ | refine blk_drew ?_ | refine blk_alloc ?_ _)); exact BK821.out⟩, ⟨by (try simp only [hl816001_59]); (with_reducible repeat (first | refine blk_drewN ?_ _ | refine blk_drew ?_ | refine blk_alloc ?_ _)); exact BK843.out⟩, ⟨by repeat (first | (with_reducible first | exact HB.out | apply below_alloc | apply pw_below_drewN | apply below_drew1 | refine below_set ?_ GE799.out | refine below_set ?_ GE810.out | refine below_set ?_ GE815.out | refine below_set ?_ GE821.out | refine below_set ?_ GE843.out) | exact HB.out)⟩⟩
                      case rest =>
                        clear HC103
                        try clear c1
                        try clear c2
                        try clear p2
                        try clear c3
                        try clear c3b0
                        try clear c4
                        try clear c5
                        try clear c6
                        try clear c7
                        try clear c8
                        try clear c9
                        try clear c10
                        try clear c11
                        try clear c12
                        try clear c13
                        try clear c14
                        try clear c17
                        try clear c19
                        try clear c20
                        try clear c21
                        try clear c22
                        try clear c23
                        try clear c26
                        try clear c27
                        try clear c32
                        try clear c33
                        try clear c34
                        try clear c38
                        try clear c39
                        try clear c40
                        try clear c41
                        try clear c43
                        try clear c44
                        try clear c47
                        try clear c48
                        try clear c49
                        try clear c51
                        try clear c52
                        try clear c55
                        try clear c58
                        try clear c65
                        try clear c66
                        try clear c67
                        try clear c70
                        try clear c70b0
                        try clear c72
                        try clear c73
                        try clear c74
                        try clear c75
                        try clear c77
                        try clear c78
                        try clear c81
                        try clear c82
                        try clear c83
                        try clear c85
                        try clear c86
                        try clear c89
                        try clear c92
                        try clear c92b0
                        try clear c93
                        try clear c94
                        try clear c95
                        try clear c100
                        try clear c100b0
                        try clear c100b1
                        try clear c104
                        try clear c105
                        try clear c106
                        try clear c111
                        try clear c112
                        try clear c118
                        try clear c119
                        try clear c120
                        try clear c121
                        try clear c125
                        try clear c126
                        try clear c127
                        try clear c128
                        try clear c129
                        try clear c131
                        try clear c132
                        try clear c133
                        try clear c136
                        try clear c137
                        try clear c138
                        try clear c139
                        try clear c141
                        try clear c142
                        try clear c143
                        try clear hcz107_0
                        try clear hcz107_1
                        try clear hcz109_0
                        try clear hcz109_1
                        try clear hcz113_0
                        try clear hcz113_1
                        try clear hcz122_0
                        try clear hcz122_1
                        try clear hcz130_0
                        try clear hcz130_1
                        try clear hcz134_0
                        try clear hcz134_1
                        try clear hcz13_0
                        try clear hcz13_1
                        try clear hcz140_0
                        try clear hcz140_1
                        try clear hcz144_0
                        try clear hcz144_1
                        try clear hcz15_0
                        try clear hcz15_1
                        try clear hcz21_0
                        try clear hcz21_1
                        try clear hcz23_0
                        try clear hcz23_1
                        try clear hcz28_0
                        try clear hcz28_1
                        try clear hcz35_0
                        try clear hcz35_1
                        try clear hcz42_0
                        try clear hcz42_1
                        try clear hcz45_0
                        try clear hcz45_1
                        try clear hcz50_0
                        try clear hcz50_1
                        try clear hcz53_0
                        try clear hcz53_1
                        try clear hcz5_0
                        try clear hcz5_1
                        try clear hcz68_0
                        try clear hcz68_1
                        try clear hcz76_0
                        try clear hcz76_1
                        try clear hcz79_0
                        try clear hcz79_1
                        try clear hcz84_0
                        try clear hcz84_1
                        try clear hcz87_0
                        try clear hcz87_1
                        try clear hcz96_0
                        try clear hcz96_1
                        try clear hcz98_0
                        try clear hcz98_1
                        try clear hfz107_0
                        try clear hfz107_1
                        try clear hfz109_0
                        try clear hfz109_1
                        try clear hfz113_0
                        try clear hfz113_1
                        try clear hfz122_0
                        try clear hfz122_1
                        try clear hfz130_0
                        try clear hfz130_1
                        try clear hfz134_0
                        try clear hfz134_1
                        try clear hfz13_0
                        try clear hfz13_1
                        try clear hfz140_0
                        try clear hfz140_1
                        try clear hfz144_0
                        try clear hfz144_1
                        try clear hfz15_0
                        try clear hfz15_1
                        try clear hfz21_0
                        try clear hfz21_1
                        try clear hfz23_0
                        try clear hfz23_1
                        try clear hfz28_0
                        try clear hfz28_1
                        try clear hfz35_0
                        try clear hfz35_1
                        try clear hfz42_0
                        try clear hfz42_1
                        try clear hfz45_0
                        try clear hfz45_1
                        try clear hfz50_0
                        try clear hfz50_1
                        try clear hfz53_0
                        try clear hfz53_1
                        try clear hfz5_0
                        try clear hfz5_1
                        try clear hfz68_0
                        try clear hfz68_1
                        try clear hfz76_0
                        try clear hfz76_1
                        try clear hfz79_0
                        try clear hfz79_1
                        try clear hfz84_0
                        try clear hfz84_1
                        try clear hfz87_0
                        try clear hfz87_1
                        try clear hfz96_0
                        try clear hfz96_1
                        try clear hfz98_0
                        try clear hfz98_1
                        try clear p2
                        obtain ⟨kq, x87_102, rfl, HA, HJ102, HO_811001, HO_816001, HO_822001, HO_844001, BK799, BK810, BK815, BK821, BK843, HB⟩ := hcut
                        have hl822001_102 := (Kd.R_reads' HO_822001.out).1
                        rw [hl822001_102] at HO_822001
                        (try simp only [hl822001_102])
                        (try simp only [hl822001_102] at BK799)
                        (try simp only [hl822001_102] at BK810)
                        (try simp only [hl822001_102] at BK815)
                        (try simp only [hl822001_102] at BK821)
                        (try simp only [hl822001_102] at BK843)
                        (try simp only [hl822001_102] at HO_811001)
                        (try simp only [hl822001_102] at HO_816001)
                        (try simp only [hl822001_102] at HO_844001)
                        cases kq with
                        | zero => exact absurd HA.out (by simp [laws_FnExactStabilise.j2])
                        | succ kj102 =>
                          have H := HA.out
                          clear HA
                          simp only [laws_FnExactStabilise.j2] at H
                          by_cases c146 : x87_102 = true
                          · subst c146
                            have H1 : (some false) = some r := by rw [if_pos rfl] at H; exact H
                            clear H
                            have H := H1
                            clear H1
                            obtain rfl := Option.some.inj H
                            go_wp2
                            go_ret
                            exact ⟨by first | rfl | (simp [errW_none, errW_some] <;> rfl) | (simp [*, errW_none, errW_some] <;> rfl), by repeat (first | (with_reducible first | exact HB.out | apply below_alloc | apply pw_below_drewN | apply below_drew1 | refine below_set ?_ GE799.out | refine below_set ?_ GE810.out | refine below_set ?_ GE815.out | refine below_set ?_ GE821.out | refine below_set ?_ GE843.out) | exact HB.out)⟩
                          · replace c146 := Bool.eq_false_iff.mpr c146
                            subst c146
                            have H1 : ((laws_heldMatrix.f kj102 t816 t832 1).bind fun t845 => (if t845 < 0 then (some false) else (if t845 = t831 then (some true) else (some false)))) = some r := by rw [if_neg (show ¬ (false = true) by decide)] at H; exact H
                            clear H
                            have H := H1
                            clear H1
                            replace H := Option.bind_eq_some_iff.mp H
                            obtain ⟨t845, A1470, H⟩ := H
                            replace H : (if t845 < 0 then (some false) else (if t845 = t831 then (some true) else (some false))) = some r := H
                            have A147 := Aside0.mk A1470
                            clear A1470
                            by_cases c148 : t845 < 0
                            · rw [if_pos c148] at H
                              have c148b0 : decide (t845 < 0) = true := decide_eq_true c148
                              clear c148
                              obtain rfl := Option.some.inj H
                              have hnb149 := NB821_799.out
                              have hnc149 := NB799_821.out
                              have hnb150 := NB821_810.out
                              have hnc150 := NB810_821.out
                              have hnb151 := NB821_815.out
                              have hnc151 := NB815_821.out
                              have hnb152 := NB821_843.out
                              have hnc152 := NB843_821.out
                              have hcz153_0 : wc.cell? ⟨gb821, 0, none⟩ = some (.int .i64 t816) := (blk_cell BK821.out 0).trans rfl
                              have hcz153_1 : wc.cell? ⟨gb821, 1, none⟩ = some (.slice Ao36 t832.length co36) := (blk_cell BK821.out 1).trans rfl
                              have hfz153_0 := blk_frozen BK821.out 0
                              have hfz153_1 := blk_frozen BK821.out 1
                              go_wp2_with (first | ((with_reducible refine gate_callee (f := 23) rfl ?_); refine goesL_ (some 90) rfl rfl Try.func23 (by kernel_rfl) rfl #[.agg #[.int .i64 t816, .slice Ao36 t832.length co36], .int .i64 1] rfl (by (try simp only [List.map_toArray, List.map_cons, List.map_nil]); first | done | rfl | (simp only [List.length_drop, List.length_take]; rfl)) ?_; (with_reducible refine (laws_heldMatrix.calls kj102 t816 _ _ t832 1 t845 _ ?side1 ?side2 A147.out).mono ?_); (case side1 => repeat (first | exact (Kd.R_reads' HO_822001.out).2.2 | (with_reducible refine Kd.C_alloc ?_ _) | (with_reducible refine Kd.C_drewN ?_ _) | (with_reducible refine Kd.C_drew ?_))); (case side2 => exact (Kd.R_reads' HO_822001.out).2.1); rintro e w154 ⟨rfl, hb⟩; refine ⟨_, rfl, ?_⟩; have n0_ := Aside0.mk (Kd.R_below (by (with_reducible repeat (first | apply Kd.R_alloc | apply Kd.R_drewN | apply Kd.R_drew)); exact HO_811001.out) hb); have n1_ := Aside0.mk (Kd.R_below (by (with_reducible repeat (first | apply Kd.R_alloc | apply Kd.R_drewN | apply Kd.R_drew)); exact HO_816001.out) hb); have n2_ := Aside0.mk (Kd.R_below (by (with_reducible repeat (first | apply Kd.R_alloc | apply Kd.R_drewN | apply Kd.R_drew)); exact HO_822001.out) hb); have n3_ := Aside0.mk (Kd.R_below (by (with_reducible repeat (first | apply Kd.R_alloc | apply Kd.R_drewN | apply Kd.R_drew)); exact HO_844001.out) hb); have n4_ := Aside0.mk (blk_below (g := gb799) (o := .cells #[.int .i64 a0_0, .slice A0_1 l0_1.length c0_1] 26 (0, 0)) (by (with_reducible repeat (first | refine blk_drewN ?_ _ | refine blk_drew ?_ | refine blk_alloc ?_ _)); exact BK799.out) hb); have n5_ := Aside0.mk (blk_below (g := gb810) (o := .cells #[.int .i64 t805, .slice Ao22 t806.length co22] 28 (0, 0)) (by (with_reducible repeat (first | refine blk_drewN ?_ _ | refine blk_drew ?_ | refine blk_alloc ?_ _)); exact BK810.out) hb); have n6_ := Aside0.mk (blk_below (g := gb815) (o := .cells #[.int .i64 t811, .slice Ao29 t829.length co29] 28 (0, 0)) (by (with_reducible repeat (first | refine blk_drewN ?_ _ | refine blk_drew ?_ | refine blk_alloc ?_ _)); exact BK815.out) hb); have n7_ := Aside0.mk (blk_below (g := gb821) (o := .cells #[.int .i64 t816, .slice Ao36 t832.length co36] 28 (0, 0)) (by (with_reducible repeat (first | refine blk_drewN ?_ _ | refine blk_drew ?_ | refine blk_alloc ?_ _)); exact BK821.out) hb); have n8_ := Aside0.mk (blk_below (g := gb843) (o := .cells #[.int .i64 t838, .slice Ao123 t839.length co123] 28 (0, 0)) (by (with_reducible repeat (first | refine blk_drewN ?_ _ | refine blk_drew ?_ | refine blk_alloc ?_ _)); exact BK843.out) hb); have n9_ := Aside0.mk (below_step (by repeat (first | (with_reducible first | exact HB.out | apply below_alloc | apply pw_below_drewN | apply below_drew1 | refine below_set ?_ GE799.out | refine below_set ?_ GE810.out | refine below_set ?_ GE815.out | refine below_set ?_ GE821.out | refine below_set ?_ GE843.out) | exact HB.out)) hb); clear HO_811001; clear HO_816001; clear HO_822001; clear HO_844001; clear BK799; clear BK810; clear BK815; clear BK821; clear BK843; clear HB; have HO_811001 := n0_; have HO_816001 := n1_; have HO_822001 := n2_; have HO_844001 := n3_; have BK799 := n4_; have BK810 := n5_; have BK815 := n6_; have BK821 := n7_; have BK843 := n8_; have HB := n9_; clear n0_ n1_ n2_ n3_ n4_ n5_ n6_ n7_ n8_ n9_; (try clear hb); (try clear hb2); (try clear hk); (try clear hi)))
                              go_ret
                              exact ⟨by first | rfl | (simp [errW_none, errW_some] <;> rfl) | (simp [*, errW_none, errW_some] <;> rfl), by repeat (first | (with_reducible first | exact HB.out | apply below_alloc | apply pw_below_drewN | apply below_drew1 | refine below_set ?_ GE799.out | refine below_set ?_ GE810.out | refine below_set ?_ GE815.out | refine below_set ?_ GE821.out | refine below_set ?_ GE843.out) | exact HB.out)⟩
                            · rw [if_neg c148] at H
                              have c148b0 : decide (t845 < 0) = false := decide_eq_false c148
                              clear c148
                              by_cases c155 : t845 = t831
                              · rw [if_pos c155] at H
                                have c155b0 : (t845 == t831) = true := beq_iff_eq.mpr c155
                                have c155b1 : (t845 != t831) = false := bne_eq_false_iff_eq.mpr c155
                                clear c155
                                obtain rfl := Option.some.inj H
                                have hnb156 := NB821_799.out
                                have hnc156 := NB799_821.out
                                have hnb157 := NB821_810.out
                                have hnc157 := NB810_821.out
                                have hnb158 := NB821_815.out
                                have hnc158 := NB815_821.out
                                have hnb159 := NB821_843.out
                                have hnc159 := NB843_821.out
                                have hcz160_0 : wc.cell? ⟨gb821, 0, none⟩ = some (.int .i64 t816) := (blk_cell BK821.out 0).trans rfl
                                have hcz160_1 : wc.cell? ⟨gb821, 1, none⟩ = some (.slice Ao36 t832.length co36) := (blk_cell BK821.out 1).trans rfl
                                have hfz160_0 := blk_frozen BK821.out 0
                                have hfz160_1 := blk_frozen BK821.out 1
                                go_wp2_with (first | ((with_reducible refine gate_callee (f := 23) rfl ?_); refine goesL_ (some 90) rfl rfl Try.func23 (by kernel_rfl) rfl #[.agg #[.int .i64 t816, .slice Ao36 t832.length co36], .int .i64 1] rfl (by (try simp only [List.map_toArray, List.map_cons, List.map_nil]); first | done | rfl | (simp only [List.length_drop, List.length_take]; rfl)) ?_; (with_reducible refine (laws_heldMatrix.calls kj102 t816 _ _ t832 1 t845 _ ?side1 ?side2 A147.out).mono ?_); (case side1 => repeat (first | exact (Kd.R_reads' HO_822001.out).2.2 | (with_reducible refine Kd.C_alloc ?_ _) | (with_reducible refine Kd.C_drewN ?_ _) | (with_reducible refine Kd.C_drew ?_))); (case side2 => exact (Kd.R_reads' HO_822001.out).2.1); rintro e w161 ⟨rfl, hb⟩; refine ⟨_, rfl, ?_⟩; have n0_ := Aside0.mk (Kd.R_below (by (with_reducible repeat (first | apply Kd.R_alloc | apply Kd.R_drewN | apply Kd.R_drew)); exact HO_811001.out) hb); have n1_ := Aside0.mk (Kd.R_below (by (with_reducible repeat (first | apply Kd.R_alloc | apply Kd.R_drewN | apply Kd.R_drew)); exact HO_816001.out) hb); have n2_ := Aside0.mk (Kd.R_below (by (with_reducible repeat (first | apply Kd.R_alloc | apply Kd.R_drewN | apply Kd.R_drew)); exact HO_822001.out) hb); have n3_ := Aside0.mk (Kd.R_below (by (with_reducible repeat (first | apply Kd.R_alloc | apply Kd.R_drewN | apply Kd.R_drew)); exact HO_844001.out) hb); have n4_ := Aside0.mk (blk_below (g := gb799) (o := .cells #[.int .i64 a0_0, .slice A0_1 l0_1.length c0_1] 26 (0, 0)) (by (with_reducible repeat (first | refine blk_drewN ?_ _ | refine blk_drew ?_ | refine blk_alloc ?_ _)); exact BK799.out) hb); have n5_ := Aside0.mk (blk_below (g := gb810) (o := .cells #[.int .i64 t805, .slice Ao22 t806.length co22] 28 (0, 0)) (by (with_reducible repeat (first | refine blk_drewN ?_ _ | refine blk_drew ?_ | refine blk_alloc ?_ _)); exact BK810.out) hb); have n6_ := Aside0.mk (blk_below (g := gb815) (o := .cells #[.int .i64 t811, .slice Ao29 t829.length co29] 28 (0, 0)) (by (with_reducible repeat (first | refine blk_drewN ?_ _ | refine blk_drew ?_ | refine blk_alloc ?_ _)); exact BK815.out) hb); have n7_ := Aside0.mk (blk_below (g := gb821) (o := .cells #[.int .i64 t816, .slice Ao36 t832.length co36] 28 (0, 0)) (by (with_reducible repeat (first | refine blk_drewN ?_ _ | refine blk_drew ?_ | refine blk_alloc ?_ _)); exact BK821.out) hb); have n8_ := Aside0.mk (blk_below (g := gb843) (o := .cells #[.int .i64 t838, .slice Ao123 t839.length co123] 28 (0, 0)) (by (with_reducible repeat (first | refine blk_drewN ?_ _ | refine blk_drew ?_ | refine blk_alloc ?_ _)); exact BK843.out) hb); have n9_ := Aside0.mk (below_step (by repeat (first | (with_reducible first | exact HB.out | apply below_alloc | apply pw_below_drewN | apply below_drew1 | refine below_set ?_ GE799.out | refine below_set ?_ GE810.out | refine below_set ?_ GE815.out | refine below_set ?_ GE821.out | refine below_set ?_ GE843.out) | exact HB.out)) hb); clear HO_811001; clear HO_816001; clear HO_822001; clear HO_844001; clear BK799; clear BK810; clear BK815; clear BK821; clear BK843; clear HB; have HO_811001 := n0_; have HO_816001 := n1_; have HO_822001 := n2_; have HO_844001 := n3_; have BK799 := n4_; have BK810 := n5_; have BK815 := n6_; have BK821 := n7_; have BK843 := n8_; have HB := n9_; clear n0_ n1_ n2_ n3_ n4_ n5_ n6_ n7_ n8_ n9_; (try clear hb); (try clear hb2); (try clear hk); (try clear hi)))
                                go_ret
                                exact ⟨by first | rfl | (simp [errW_none, errW_some] <;> rfl) | (simp [*, errW_none, errW_some] <;> rfl), by repeat (first | (with_reducible first | exact HB.out | apply below_alloc | apply pw_below_drewN | apply below_drew1 | refine below_set ?_ GE799.out | refine below_set ?_ GE810.out | refine below_set ?_ GE815.out | refine below_set ?_ GE821.out | refine below_set ?_ GE843.out) | exact HB.out)⟩
                              · rw [if_neg c155] at H
                                have c155b0 : (t845 == t831) = false := beq_eq_false_iff_ne.mpr c155
                                have c155b1 : (t845 != t831) = true := bne_iff_ne.mpr c155
                                obtain rfl := Option.some.inj H
                                have hnb162 := NB821_799.out
                                have hnc162 := NB799_821.out
                                have hnb163 := NB821_810.out
                                have hnc163 := NB810_821.out
                                have hnb164 := NB821_815.out
                                have hnc164 := NB815_821.out
                                have hnb165 := NB821_843.out
                                have hnc165 := NB843_821.out
                                have hcz166_0 : wc.cell? ⟨gb821, 0, none⟩ = some (.int .i64 t816) := (blk_cell BK821.out 0).trans rfl
                                have hcz166_1 : wc.cell? ⟨gb821, 1, none⟩ = some (.slice Ao36 t832.length co36) := (blk_cell BK821.out 1).trans rfl
                                have hfz166_0 := blk_frozen BK821.out 0
                                have hfz166_1 := blk_frozen BK821.out 1
                                go_wp2_with (first | ((with_reducible refine gate_callee (f := 23) rfl ?_); refine goesL_ (some 90) rfl rfl Try.func23 (by kernel_rfl) rfl #[.agg #[.int .i64 t816, .slice Ao36 t832.length co36], .int .i64 1] rfl (by (try simp only [List.map_toArray, List.map_cons, List.map_nil]); first | done | rfl | (simp only [List.length_drop, List.length_take]; rfl)) ?_; (with_reducible refine (laws_heldMatrix.calls kj102 t816 _ _ t832 1 t845 _ ?side1 ?side2 A147.out).mono ?_); (case side1 => repeat (first | exact (Kd.R_reads' HO_822001.out).2.2 | (with_reducible refine Kd.C_alloc ?_ _) | (with_reducible refine Kd.C_drewN ?_ _) | (with_reducible refine Kd.C_drew ?_))); (case side2 => exact (Kd.R_reads' HO_822001.out).2.1); rintro e w167 ⟨rfl, hb⟩; refine ⟨_, rfl, ?_⟩; have n0_ := Aside0.mk (Kd.R_below (by (with_reducible repeat (first | apply Kd.R_alloc | apply Kd.R_drewN | apply Kd.R_drew)); exact HO_811001.out) hb); have n1_ := Aside0.mk (Kd.R_below (by (with_reducible repeat (first | apply Kd.R_alloc | apply Kd.R_drewN | apply Kd.R_drew)); exact HO_816001.out) hb); have n2_ := Aside0.mk (Kd.R_below (by (with_reducible repeat (first | apply Kd.R_alloc | apply Kd.R_drewN | apply Kd.R_drew)); exact HO_822001.out) hb); have n3_ := Aside0.mk (Kd.R_below (by (with_reducible repeat (first | apply Kd.R_alloc | apply Kd.R_drewN | apply Kd.R_drew)); exact HO_844001.out) hb); have n4_ := Aside0.mk (blk_below (g := gb799) (o := .cells #[.int .i64 a0_0, .slice A0_1 l0_1.length c0_1] 26 (0, 0)) (by (with_reducible repeat (first | refine blk_drewN ?_ _ | refine blk_drew ?_ | refine blk_alloc ?_ _)); exact BK799.out) hb); have n5_ := Aside0.mk (blk_below (g := gb810) (o := .cells #[.int .i64 t805, .slice Ao22 t806.length co22] 28 (0, 0)) (by (with_reducible repeat (first | refine blk_drewN ?_ _ | refine blk_drew ?_ | refine blk_alloc ?_ _)); exact BK810.out) hb); have n6_ := Aside0.mk (blk_below (g := gb815) (o := .cells #[.int .i64 t811, .slice Ao29 t829.length co29] 28 (0, 0)) (by (with_reducible repeat (first | refine blk_drewN ?_ _ | refine blk_drew ?_ | refine blk_alloc ?_ _)); exact BK815.out) hb); have n7_ := Aside0.mk (blk_below (g := gb821) (o := .cells #[.int .i64 t816, .slice Ao36 t832.length co36] 28 (0, 0)) (by (with_reducible repeat (first | refine blk_drewN ?_ _ | refine blk_drew ?_ | refine blk_alloc ?_ _)); exact BK821.out) hb); have n8_ := Aside0.mk (blk_below (g := gb843) (o := .cells #[.int .i64 t838, .slice Ao123 t839.length co123] 28 (0, 0)) (by (with_reducible repeat (first | refine blk_drewN ?_ _ | refine blk_drew ?_ | refine blk_alloc ?_ _)); exact BK843.out) hb); have n9_ := Aside0.mk (below_step (by repeat (first | (with_reducible first | exact HB.out | apply below_alloc | apply pw_below_drewN | apply below_drew1 | refine below_set ?_ GE799.out | refine below_set ?_ GE810.out | refine below_set ?_ GE815.out | refine below_set ?_ GE821.out | refine below_set ?_ GE843.out) | exact HB.out)) hb); clear HO_811001; clear HO_816001; clear HO_822001; clear HO_844001; clear BK799; clear BK810; clear BK815; clear BK821; clear BK843; clear HB; have HO_811001 := n0_; have HO_816001 := n1_; have HO_822001 := n2_; have HO_844001 := n3_; have BK799 := n4_; have BK810 := n5_; have BK815 := n6_; have BK821 := n7_; have BK843 := n8_; have HB := n9_; clear n0_ n1_ n2_ n3_ n4_ n5_ n6_ n7_ n8_ n9_; (try clear hb); (try clear hb2); (try clear hk); (try clear hi)))
                                go_ret
                                exact ⟨by first | rfl | (simp [errW_none, errW_some] <;> rfl) | (simp [*, errW_none, errW_some] <;> rfl), by repeat (first | (with_reducible first | exact HB.out | apply below_alloc | apply pw_below_drewN | apply below_drew1 | refine below_set ?_ GE799.out | refine below_set ?_ GE810.out | refine below_set ?_ GE815.out | refine below_set ?_ GE821.out | refine below_set ?_ GE843.out) | exact HB.out)⟩
                    · rw [if_neg c100] at H
                      have c100b0 : (t833 == t831) = false := beq_eq_false_iff_ne.mpr c100
                      have c100b1 : (t833 != t831) = true := bne_iff_ne.mpr c100
                      obtain rfl := Option.some.inj H
                      have hnb168 := NB821_799.out
                      have hnc168 := NB799_821.out
                      have hnb169 := NB821_810.out
                      have hnc169 := NB810_821.out
                      have hnb170 := NB821_815.out
                      have hnc170 := NB815_821.out
                      have hcz171_0 : wc.cell? ⟨gb821, 0, none⟩ = some (.int .i64 t816) := (blk_cell BK821.out 0).trans rfl
                      have hcz171_1 : wc.cell? ⟨gb821, 1, none⟩ = some (.slice Ao36 t817.length co36) := (blk_cell BK821.out 1).trans rfl
                      have hfz171_0 := blk_frozen BK821.out 0
                      have hfz171_1 := blk_frozen BK821.out 1
                      go_wp2_with (first | ((with_reducible refine gate_callee (f := 22) rfl ?_); refine goesL_ (some 64) rfl rfl Try.func22 (by kernel_rfl) rfl #[.agg #[.int .i64 t816, .slice Ao36 t817.length co36], .int .i64 1] rfl (by (try simp only [List.map_toArray, List.map_cons, List.map_nil]); first | done | rfl | (simp only [List.length_drop, List.length_take]; rfl)) ?_; (with_reducible refine (laws_markMatrix.calls kj59 t816 (fun k_ => some k_ = (.slice Ao36 t817.length co36 : Value).ownBlock) (.slice Ao36 t817.length co36) t817 1 t831 t832 w _ ?side1 ?side2 A90.out).mono ?_); (case side1 => repeat (first | (with_reducible first | exact HB.out | apply below_alloc | apply pw_below_drewN | apply below_drew1 | refine below_set ?_ GE799.out | refine below_set ?_ GE810.out | refine below_set ?_ GE815.out | refine below_set ?_ GE821.out) | exact HB.out)); (case side2 => exact Kd.R_tight rfl HO_822001.out); rintro e w172 ⟨rfl, hy0, hb, hkp⟩; refine ⟨_, rfl, ?_⟩; have n0_ := Aside0.mk (Kd.R_mono (ok' := fun k_ => some k_ ≠ (.slice Ao29 t829.length co29 : Value).ownBlock ∧ some k_ ≠ (.slice Ao36 t817.length co36 : Value).ownBlock) (Kd.R_keptB (HO_811001.out) hkp (fun k_ hk_ hs_ => (hk_.2) hs_)) (fun k_ hk_ => ⟨hk_.1.1, hk_.1.2⟩)); have n1_ := Aside0.mk (Kd.R_mono (ok' := fun k_ => some k_ ≠ (.slice Ao22 t806.length co22 : Value).ownBlock ∧ some k_ ≠ (.slice Ao36 t817.length co36 : Value).ownBlock) (Kd.R_keptB (HO_816001.out) hkp (fun k_ hk_ hs_ => (hk_.2) hs_)) (fun k_ hk_ => ⟨hk_.1.1, hk_.1.2⟩)); have n2_ := Aside0.mk (Kd.R_reok rfl hy0 (fun k_ e_ => HO_822001.out.1 k_ e_)); have n3_ := Aside0.mk (blk_kept (by (with_reducible repeat (first | refine blk_drewN ?_ _ | refine blk_drew ?_ | refine blk_alloc ?_ _)); exact BK799.out) hkp (fun hs_ => (fun e_ => (Kd.R_ne HO_822001.out BK799.out (by decide)) e_) hs_)); have n4_ := Aside0.mk (blk_kept (by (with_reducible repeat (first | refine blk_drewN ?_ _ | refine blk_drew ?_ | refine blk_alloc ?_ _)); exact BK810.out) hkp (fun hs_ => (fun e_ => (Kd.R_ne HO_822001.out BK810.out (by decide)) e_) hs_)); have n5_ := Aside0.mk (blk_kept (by (with_reducible repeat (first | refine blk_drewN ?_ _ | refine blk_drew ?_ | refine blk_alloc ?_ _)); exact BK815.out) hkp (fun hs_ => (fun e_ => (Kd.R_ne HO_822001.out BK815.out (by decide)) e_) hs_)); have n6_ := Aside0.mk (blk_kept (by (with_reducible repeat (first | refine blk_drewN ?_ _ | refine blk_drew ?_ | refine blk_alloc ?_ _)); exact BK821.out) hkp (fun hs_ => (fun e_ => (Kd.R_ne HO_822001.out BK821.out (by decide)) e_) hs_)); have n7_ := Aside0.mk (hb); clear HO_811001; clear HO_816001; clear HO_822001; clear BK799; clear BK810; clear BK815; clear BK821; clear HB; have HO_811001 := n0_; have HO_816001 := n1_; have HO_822001 := n2_; have BK799 := n3_; have BK810 := n4_; have BK815 := n5_; have BK821 := n6_; have HB := n7_; clear n0_ n1_ n2_ n3_ n4_ n5_ n6_ n7_; (try clear hb); (try clear hkp); (try clear hy0); have hcz173_0 : w172.cell? ⟨gb821, 0, none⟩ = some (.int .i64 t816) := (blk_cell BK821.out 0).trans rfl; have hcz173_1 : w172.cell? ⟨gb821, 1, none⟩ = some (.slice Ao36 t817.length co36) := (blk_cell BK821.out 1).trans rfl; have hfz173_0 := blk_frozen BK821.out 0; have hfz173_1 := blk_frozen BK821.out 1) | ((with_reducible refine gate_callee (f := 23) rfl ?_); refine goesL_ (some 67) rfl rfl Try.func23 (by kernel_rfl) rfl #[.agg #[.int .i64 t816, .slice Ao36 t832.length co36], .int .i64 1] rfl (by (try simp only [List.map_toArray, List.map_cons, List.map_nil]); first | done | (rw [show t832.length = t817.length from (Kd.R_reads' HO_822001.out).1.symm] <;> rfl) | rfl | (simp only [List.length_drop, List.length_take]; rfl)) ?_; (with_reducible refine (laws_heldMatrix.calls kj59 t816 _ _ t832 1 t833 _ ?side1 ?side2 A91.out).mono ?_); (case side1 => repeat (first | exact (Kd.R_reads' HO_822001.out).2.2 | (with_reducible refine Kd.C_alloc ?_ _) | (with_reducible refine Kd.C_drewN ?_ _) | (with_reducible refine Kd.C_drew ?_))); (case side2 => rw [show t832.length = t817.length from (Kd.R_reads' HO_822001.out).1.symm]; exact (Kd.R_reads' HO_822001.out).2.1); rintro e w174 ⟨rfl, hb⟩; refine ⟨_, rfl, ?_⟩; have n0_ := Aside0.mk (Kd.R_below (by (with_reducible repeat (first | apply Kd.R_alloc | apply Kd.R_drewN | apply Kd.R_drew)); exact HO_811001.out) hb); have n1_ := Aside0.mk (Kd.R_below (by (with_reducible repeat (first | apply Kd.R_alloc | apply Kd.R_drewN | apply Kd.R_drew)); exact HO_816001.out) hb); have n2_ := Aside0.mk (Kd.R_below (by (with_reducible repeat (first | apply Kd.R_alloc | apply Kd.R_drewN | apply Kd.R_drew)); exact HO_822001.out) hb); have n3_ := Aside0.mk (blk_below (g := gb799) (o := .cells #[.int .i64 a0_0, .slice A0_1 l0_1.length c0_1] 26 (0, 0)) (by (with_reducible repeat (first | refine blk_drewN ?_ _ | refine blk_drew ?_ | refine blk_alloc ?_ _)); exact BK799.out) hb); have n4_ := Aside0.mk (blk_below (g := gb810) (o := .cells #[.int .i64 t805, .slice Ao22 t806.length co22] 28 (0, 0)) (by (with_reducible repeat (first | refine blk_drewN ?_ _ | refine blk_drew ?_ | refine blk_alloc ?_ _)); exact BK810.out) hb); have n5_ := Aside0.mk (blk_below (g := gb815) (o := .cells #[.int .i64 t811, .slice Ao29 t829.length co29] 28 (0, 0)) (by (with_reducible repeat (first | refine blk_drewN ?_ _ | refine blk_drew ?_ | refine blk_alloc ?_ _)); exact BK815.out) hb); have n6_ := Aside0.mk (blk_below (g := gb821) (o := .cells #[.int .i64 t816, .slice Ao36 t817.length co36] 28 (0, 0)) (by (with_reducible repeat (first | refine blk_drewN ?_ _ | refine blk_drew ?_ | refine blk_alloc ?_ _)); exact BK821.out) hb); have n7_ := Aside0.mk (below_step (by repeat (first | (with_reducible first | exact HB.out | apply below_alloc | apply pw_below_drewN | apply below_drew1 | refine below_set ?_ GE799.out | refine below_set ?_ GE810.out | refine below_set ?_ GE815.out | refine below_set ?_ GE821.out) | exact HB.out)) hb); clear HO_811001; clear HO_816001; clear HO_822001; clear BK799; clear BK810; clear BK815; clear BK821; clear HB; have HO_811001 := n0_; have HO_816001 := n1_; have HO_822001 := n2_; have BK799 := n3_; have BK810 := n4_; have BK815 := n5_; have BK821 := n6_; have HB := n7_; clear n0_ n1_ n2_ n3_ n4_ n5_ n6_ n7_; (try clear hb); (try clear hb2); (try clear hk); (try clear hi)))
                      go_ret
                      exact ⟨by first | rfl | (simp [errW_none, errW_some] <;> rfl) | (simp [*, errW_none, errW_some] <;> rfl), by repeat (first | (with_reducible first | exact HB.out | apply below_alloc | apply pw_below_drewN | apply below_drew1 | refine below_set ?_ GE799.out | refine below_set ?_ GE810.out | refine below_set ?_ GE815.out | refine below_set ?_ GE821.out) | exact HB.out)⟩
          · replace c58 := Bool.eq_false_iff.mpr c58
            subst c58
            have H1 : (some false) = some r := by rw [if_neg (show ¬ (false = true) by decide)] at H; exact H
            clear H
            have H := H1
            clear H1
            obtain rfl := Option.some.inj H
            try go_wp2
            have n0_ := Aside0.mk (Kd.R_drew HO_811001.out)
            have n1_ := Aside0.mk (Kd.R_drew HO_816001.out)
            have n2_ := Aside0.mk (Kd.R_drew HO_822001.out)
            have n3_ := Aside0.mk (blk_drew BK799.out)
            have n4_ := Aside0.mk (blk_drew BK810.out)
            have n5_ := Aside0.mk (blk_drew BK815.out)
            have n6_ := Aside0.mk (blk_drew BK821.out)
            have n7_ := Aside0.mk (below_drew1 HB.out)
            clear HO_811001
            clear HO_816001
            clear HO_822001
            clear BK799
            clear BK810
            clear BK815
            clear BK821
            clear HB
            have HO_811001 := n0_
            have HO_816001 := n1_
            have HO_822001 := n2_
            have BK799 := n3_
            have BK810 := n4_
            have BK815 := n5_
            have BK821 := n6_
            have HB := n7_
            clear n0_ n1_ n2_ n3_ n4_ n5_ n6_ n7_
            refine start_ (n := 5) (S := fun w' => w'.cell? ⟨gb815, 0, none⟩ = some (.int .i64 t811) ∧ w'.cell? ⟨gb815, 1, none⟩ = some (.slice Ao29 t812.length co29) ∧ w'.cell? ⟨gb799, 0, none⟩ = some (.int .i64 a0_0) ∧ w'.cell? ⟨gb799, 1, none⟩ = some (.slice A0_1 l0_1.length c0_1)) (ds := []) #[false, false, false, false, false] (by kernel_rfl) rfl rfl ⟨(blk_cell BK815.out 0).trans rfl, (blk_cell BK815.out 1).trans rfl, (blk_cell BK799.out 0).trans rfl, (blk_cell BK799.out 1).trans rfl⟩ (fun hHeld => ?_)
            generalize wc.drew = w175 at HO_811001 HO_816001 HO_822001 BK799 BK810 BK815 BK821 HB hHeld ⊢
            refine take_ (i := 0) (N := some 41) (v := ?_) (a' := ?_) #[true, false, false, false, false] rfl rfl (by kernel_rfl) (fun _ _ _ h => h) (Or.inl ⟨by rfl, ?_⟩) hHeld ?_ ?_
            rotate_left
            · rintro w' ⟨s0, s1, s2, s3⟩
              go_simp
              with_reducible rfl
            rotate_left
            · simp only [Act.put, List.setIfInBounds_toArray, List.set_cons_zero, List.set_cons_succ, i64_w, i32_w]
              rfl
            refine take_ (i := 1) (N := some 42) (v := ?_) (a' := ?_) #[true, true, false, false, false] rfl rfl (by kernel_rfl) (fun _ _ _ h => h) (Or.inl ⟨by rfl, ?_⟩) hHeld ?_ ?_
            rotate_left
            · rintro w' ⟨s0, s1, s2, s3⟩
              go_simp
              with_reducible rfl
            rotate_left
            · simp only [Act.put, List.setIfInBounds_toArray, List.set_cons_zero, List.set_cons_succ, i64_w, i32_w]
              rfl
            refine one_ (i := 2) (N := some 43) #[true, true, true, false, false] rfl rfl (by kernel_rfl) (by decide) (fun K hK => ?_)
            refine goes_ Try.func19 (by kernel_rfl) rfl #[.agg #[.int .i64 a0_0, .slice A0_1 l0_1.length c0_1]] (by rfl) rfl rfl (by (try simp only [List.map_toArray, List.map_cons, List.map_nil]); first | done | rfl | (simp only [List.length_drop, List.length_take]; rfl)) ?_
            with_reducible refine (laws_toMatrix.calls kj10 a0_0 _ _ l0_1 t823 t824 _ ?side1 ?side2 A56.out).mono ?_
            (case side1 => repeat (first | exact (Kd.C_below HR0_1.out HB.out) | (with_reducible refine Kd.C_alloc ?_ _) | (with_reducible refine Kd.C_drewN ?_ _) | (with_reducible refine Kd.C_drew ?_)))
            (case side2 => exact HC0_1.out)
            rintro e w176 ⟨v825, rfl, ho0, hb⟩
            refine ⟨_, rfl, ?_⟩
            have n0_ := Aside0.mk (Kd.R_elder' (by (with_reducible repeat (first | apply Kd.R_alloc | apply Kd.R_drewN | apply Kd.R_drew)); exact HO_811001.out) (Kd.R_base ho0) hb)
            have n1_ := Aside0.mk (Kd.R_elder' (by (with_reducible repeat (first | apply Kd.R_alloc | apply Kd.R_drewN | apply Kd.R_drew)); exact HO_816001.out) (Kd.R_base ho0) hb)
            have n2_ := Aside0.mk (Kd.R_elder' (by (with_reducible repeat (first | apply Kd.R_alloc | apply Kd.R_drewN | apply Kd.R_drew)); exact HO_822001.out) (Kd.R_base ho0) hb)
            have n3_ := Aside0.mk (Kd.R_lower (Kd.R_new' (Kd.R_new' (Kd.R_new' ho0 (Kd.R_lt (by (with_reducible repeat (first | apply Kd.R_alloc | apply Kd.R_drewN | apply Kd.R_drew)); exact HO_811001.out))) (Kd.R_lt (by (with_reducible repeat (first | apply Kd.R_alloc | apply Kd.R_drewN | apply Kd.R_drew)); exact HO_816001.out))) (Kd.R_lt (by (with_reducible repeat (first | apply Kd.R_alloc | apply Kd.R_drewN | apply Kd.R_drew)); exact HO_822001.out))) (below_size (by repeat (first | (with_reducible first | exact HB.out | apply below_alloc | apply pw_below_drewN | apply below_drew1 | refine below_set ?_ GE799.out | refine below_set ?_ GE810.out | refine below_set ?_ GE815.out | refine below_set ?_ GE821.out) | exact HB.out))))
            have n4_ := Aside0.mk (blk_below (g := gb799) (o := .cells #[.int .i64 a0_0, .slice A0_1 l0_1.length c0_1] 26 (0, 0)) (by (with_reducible repeat (first | refine blk_drewN ?_ _ | refine blk_drew ?_ | refine blk_alloc ?_ _)); exact BK799.out) hb)
            have n5_ := Aside0.mk (blk_below (g := gb810) (o := .cells #[.int .i64 t805, .slice Ao22 t806.length co22] 28 (0, 0)) (by (with_reducible repeat (first | refine blk_drewN ?_ _ | refine blk_drew ?_ | refine blk_alloc ?_ _)); exact BK810.out) hb)
            have n6_ := Aside0.mk (blk_below (g := gb815) (o := .cells #[.int .i64 t811, .slice Ao29 t812.length co29] 28 (0, 0)) (by (with_reducible repeat (first | refine blk_drewN ?_ _ | refine blk_drew ?_ | refine blk_alloc ?_ _)); exact BK815.out) hb)
            have n7_ := Aside0.mk (blk_below (g := gb821) (o := .cells #[.int .i64 t816, .slice Ao36 t817.length co36] 28 (0, 0)) (by (with_reducible repeat (first | refine blk_drewN ?_ _ | refine blk_drew ?_ | refine blk_alloc ?_ _)); exact BK821.out) hb)
            have n8_ := Aside0.mk (below_step (by repeat (first | (with_reducible first | exact HB.out | apply below_alloc | apply pw_below_drewN | apply below_drew1 | refine below_set ?_ GE799.out | refine below_set ?_ GE810.out | refine below_set ?_ GE815.out | refine below_set ?_ GE821.out) | exact HB.out)) hb)
            clear HO_811001
            clear HO_816001
            clear HO_822001
            clear BK799
            clear BK810
            clear BK815
            clear BK821
            clear HB
            have HO_811001 := n0_
            have HO_816001 := n1_
            have HO_822001 := n2_
            have HO826 := n3_
            have BK799 := n4_
            have BK810 := n5_
            have BK815 := n6_
            have BK821 := n7_
            have HB := n8_
            clear n0_ n1_ n2_ n3_ n4_ n5_ n6_ n7_ n8_
            (try clear hb)
            (try clear hb2)
            (try clear hk)
            (try clear hi)
            (try clear ho0)
            obtain ⟨Ao177, co177, eo177⟩ := Kd.R_slice HO826.out
            (first | subst eo177 | (injection eo177 with f1_ f2_ f3_; have f4_ := f1_.symm; have f5_ := f3_.symm; clear f1_ f2_ f3_; subst f4_; subst f5_))
            refine hK.out _ _ ⟨(blk_cell BK815.out 0).trans rfl, (blk_cell BK815.out 1).trans rfl, (blk_cell BK799.out 0).trans rfl, (blk_cell BK799.out 1).trans rfl⟩ (fun hHeld => ?_)
            clear hK K
            refine norm_ (a' := ?_) ?_ ?_
            rotate_left
            · show Act.put _ (some 43) _ = _
              simp only [Act.put, List.setIfInBounds_toArray, List.set_cons_zero, List.set_cons_succ, i64_w, i32_w]
              rfl
            refine one_ (i := 3) (N := some 44) #[true, true, true, true, false] rfl rfl (by kernel_rfl) (by decide) (fun K hK => ?_)
            refine goes_ Try.func21 (by kernel_rfl) rfl #[.agg #[.int .i64 t811, .slice Ao29 t812.length co29], .agg #[.int .i64 t823, .slice Ao177 t824.length co177]] (by rfl) rfl rfl (by (try simp only [List.map_toArray, List.map_cons, List.map_nil]); first | done | rfl | (simp only [List.length_drop, List.length_take]; rfl)) ?_
            with_reducible refine (laws_eqMatrix.calls kj10 t811 _ _ t812 t823 _ _ t824 false _ ?side1 ?side2 ?side3 ?side4 A57.out).mono ?_
            (case side1 => repeat (first | exact (Kd.R_reads' HO_816001.out).2.2 | (with_reducible refine Kd.C_alloc ?_ _) | (with_reducible refine Kd.C_drewN ?_ _) | (with_reducible refine Kd.C_drew ?_)))
            (case side2 => exact (Kd.R_reads' HO_816001.out).2.1)
            (case side3 => repeat (first | exact (Kd.R_reads' HO826.out).2.2 | (with_reducible refine Kd.C_alloc ?_ _) | (with_reducible refine Kd.C_drewN ?_ _) | (with_reducible refine Kd.C_drew ?_)))
            (case side4 => exact (Kd.R_reads' HO826.out).2.1)
            rintro e w178 ⟨rfl, hb⟩
            refine ⟨_, rfl, ?_⟩
            have n0_ := Aside0.mk (Kd.R_below (by (with_reducible repeat (first | apply Kd.R_alloc | apply Kd.R_drewN | apply Kd.R_drew)); exact HO_811001.out) hb)
            have n1_ := Aside0.mk (Kd.R_below (by (with_reducible repeat (first | apply Kd.R_alloc | apply Kd.R_drewN | apply Kd.R_drew)); exact HO_816001.out) hb)
            have n2_ := Aside0.mk (Kd.R_below (by (with_reducible repeat (first | apply Kd.R_alloc | apply Kd.R_drewN | apply Kd.R_drew)); exact HO_822001.out) hb)
            have n3_ := Aside0.mk (Kd.R_below (by (with_reducible repeat (first | apply Kd.R_alloc | apply Kd.R_drewN | apply Kd.R_drew)); exact HO826.out) hb)
            have n4_ := Aside0.mk (blk_below (g := gb799) (o := .cells #[.int .i64 a0_0, .slice A0_1 l0_1.length c0_1] 26 (0, 0)) (by (with_reducible repeat (first | refine blk_drewN ?_ _ | refine blk_drew ?_ | refine blk_alloc ?_ _)); exact BK799.out) hb)
            have n5_ := Aside0.mk (blk_below (g := gb810) (o := .cells #[.int .i64 t805, .slice Ao22 t806.length co22] 28 (0, 0)) (by (with_reducible repeat (first | refine blk_drewN ?_ _ | refine blk_drew ?_ | refine blk_alloc ?_ _)); exact BK810.out) hb)
            have n6_ := Aside0.mk (blk_below (g := gb815) (o := .cells #[.int .i64 t811, .slice Ao29 t812.length co29] 28 (0, 0)) (by (with_reducible repeat (first | refine blk_drewN ?_ _ | refine blk_drew ?_ | refine blk_alloc ?_ _)); exact BK815.out) hb)
            have n7_ := Aside0.mk (blk_below (g := gb821) (o := .cells #[.int .i64 t816, .slice Ao36 t817.length co36] 28 (0, 0)) (by (with_reducible repeat (first | refine blk_drewN ?_ _ | refine blk_drew ?_ | refine blk_alloc ?_ _)); exact BK821.out) hb)
            have n8_ := Aside0.mk (below_step (by repeat (first | (with_reducible first | exact HB.out | apply below_alloc | apply pw_below_drewN | apply below_drew1 | refine below_set ?_ GE799.out | refine below_set ?_ GE810.out | refine below_set ?_ GE815.out | refine below_set ?_ GE821.out) | exact HB.out)) hb)
            clear HO_811001
            clear HO_816001
            clear HO_822001
            clear HO826
            clear BK799
            clear BK810
            clear BK815
            clear BK821
            clear HB
            have HO_811001 := n0_
            have HO_816001 := n1_
            have HO_822001 := n2_
            have HO826 := n3_
            have BK799 := n4_
            have BK810 := n5_
            have BK815 := n6_
            have BK821 := n7_
            have HB := n8_
            clear n0_ n1_ n2_ n3_ n4_ n5_ n6_ n7_ n8_
            (try clear hb)
            (try clear hb2)
            (try clear hk)
            (try clear hi)
            refine hK.out _ _ ⟨(blk_cell BK815.out 0).trans rfl, (blk_cell BK815.out 1).trans rfl, (blk_cell BK799.out 0).trans rfl, (blk_cell BK799.out 1).trans rfl⟩ (fun hHeld => ?_)
            clear hK K
            refine norm_ (a' := ?_) ?_ ?_
            rotate_left
            · show Act.put _ (some 44) _ = _
              simp only [Act.put, List.setIfInBounds_toArray, List.set_cons_zero, List.set_cons_succ, i64_w, i32_w]
              rfl
            refine pure_ (i := 4) (N := some 45) (v := ?_) (a' := ?_) #[true, true, true, true, true] rfl rfl (by kernel_rfl) (fun _ _ _ h => h) (Or.inl ⟨by rfl, ?_⟩) ?_ ?_
            rotate_left
            · intro w'
              go_simp
              with_reducible rfl
            rotate_left
            · simp only [Act.put, List.setIfInBounds_toArray, List.set_cons_zero, List.set_cons_succ, i64_w, i32_w]
              rfl
            refine done_ (by kernel_rfl) ?_
            try go_wp2
            go_ret
            exact ⟨by first | rfl | (simp [errW_none, errW_some] <;> rfl) | (simp [*, errW_none, errW_some] <;> rfl), by repeat (first | (with_reducible first | exact HB.out | apply below_alloc | apply pw_below_drewN | apply below_drew1 | refine below_set ?_ GE799.out | refine below_set ?_ GE810.out | refine below_set ?_ GE815.out | refine below_set ?_ GE821.out) | exact HB.out)⟩
def laws_FnExactStabilise.Pure : Prop := ∀ (a0_0 : Int) (l0_1 : List Int), (Lit.int .i64 a0_0).wf = true → l0_1.length ≤ maxLen → (∀ x_ ∈ l0_1, (Lit.int .i64 x_).wf = true) → ∃ k, laws_FnExactStabilise.f k a0_0 l0_1 = some true
end Go.Proofs.Ytengegdaiphfeaa.X
end
section
namespace Go.Proofs.Ytengegdaiphfeaa.X
open Go.RowKit Go.Proofs.Ytengegdaiphfeaa.X Go.Proofs.YtengegdaiphfeaaW.PrintWords Go.Proofs.YtengegdaiphfeaaW.PrintLast Go.Proofs.YtengegdaiphfeaaW.PrintMore
set_option linter.unusedVariables false
set_option linter.unusedSimpArgs false
open Go.ChangeShapes Go.WideShapes Go.Deep
theorem field_ints {H : Type} {enc : TypeId × Value → H} {P : Program} {w : World} {base : Nat} {spare : Nat → Bool} {held : Bool} {t e : TypeId} {k : IntKind} {fuel : Nat} {v : Value} {x : DataW H × List MemPlace}
    (ht : P.underlying t = some (.slice e)) (he : P.underlying e = some (.int k)) (hc : P.cellsOf e = 1) (h : DataW.trod enc P w base spare held fuel t [v] = some x) :
    ∃ (A : Option Addr) (c : Nat) (l : List Int), v = .slice A l.length c ∧ Kd.C (Kd.int k) w A l.length l ∧ l.length ≤ c ∧ l.length ≤ maxLen ∧ ∀ n ∈ l, (Lit.int k n).wf = true := by
  rcases open_ints ht he hc h with ⟨hcs, _⟩ | ⟨a, len, cap, zs, hcs, _, hl, hm, hz, _, hcell, hwf⟩
  · simp at hcs
    obtain ⟨l, h1, h2, h3, h4, h5⟩ := ReadsInt.ofRowC (k := k) (w := w) (a := none) (len := 0) (cap := 0) (zs := []) (.inl ⟨rfl, rfl, rfl, rfl⟩)
    exact ⟨none, 0, l, by rw [hcs, ← h1], Kd.C_of_reads (d := (0 : Int)) (h1 := fun _ => rfl) h2, h5, h3, h4⟩
  · simp at hcs
    have hr : ∃ l : List Int, len = l.length ∧ ReadsInt w k (some a) l.length l ∧ l.length ≤ maxLen ∧ (∀ x ∈ l, (Lit.int k x).wf = true) := by
      refine ⟨zs.take len, ?_, ?_, ?_, fun x hx => hwf x (List.mem_of_mem_take hx)⟩
      · rw [List.length_take, hz]; split <;> omega
      · have hlen : (zs.take len).length = len := by rw [List.length_take, hz]; split <;> omega
        refine ⟨rfl, by rw [hlen]; exact Nat.le_trans hl hm, fun hn => ⟨a, rfl, fun j hj => ?_⟩⟩
        rw [hlen] at hj
        have hj2 : j < zs.length := by rw [hz]; split <;> omega
        rw [hcell j hj2]
        simp [List.getD_eq_getElem?_getD, List.getElem?_take, hj]
      · rw [List.length_take]; exact Nat.le_trans (Nat.min_le_left _ _) (Nat.le_trans hl hm)
    obtain ⟨l, h1, h2, h3, h4⟩ := hr
    exact ⟨some a, cap, l, by rw [hcs, ← h1], Kd.C_of_reads (d := (0 : Int)) (h1 := fun _ => rfl) h2, by omega, h3, h4⟩
theorem field_int {H : Type} {enc : TypeId × Value → H} {P : Program} {w : World} {base : Nat} {spare : Nat → Bool} {held : Bool} {t : TypeId} {k : IntKind} {fuel : Nat} {v : Value} {x : DataW H × List MemPlace}
    (ht : P.underlying t = some (.int k)) (h : DataW.trod enc P w base spare held fuel t [v] = some x) : ∃ n : Int, v = .int k n ∧ (Lit.int k n).wf = true := by
  obtain ⟨n, h1, _, h2⟩ := DataW.trod_int ht h
  simp at h1
  exact ⟨n, h1, h2⟩
theorem field_str {H : Type} {enc : TypeId × Value → H} {P : Program} {w : World} {base : Nat} {spare : Nat → Bool} {held : Bool} {t : TypeId} {fuel : Nat} {v : Value} {x : DataW H × List MemPlace}
    (ht : P.underlying t = some .string) (h : DataW.trod enc P w base spare held fuel t [v] = some x) : ∃ s : ByteArray, v = .string s ∧ s.size ≤ maxLen := by
  obtain ⟨s, h1, _, h2⟩ := DataW.trod_string ht h
  simp at h1
  exact ⟨s, h1, h2⟩
set_option maxRecDepth 100000 in
theorem row_matrix {H : Type} {enc : TypeId × Value → H} {w : World} {base b0 : Nat} {r : Reach} {spare : Nat → Bool} {held : Bool} {v : Value} {d : DataW H} {p : List MemPlace}
    (hv : Value.okWide Try.prog w r b0 26 v) (h : DataW.Trod enc Try.prog w base spare held 26 v d p) :
    ∃ (n : Int) (A : Option Addr) (c : Nat) (l : List Int), v = .agg #[.int .i64 n, .slice A l.length c] ∧ Kd.C (Kd.int .i64) w A l.length l ∧ l.length ≤ c ∧ (Lit.int .i64 n).wf = true ∧ l.length ≤ maxLen ∧ ∀ x ∈ l, (Lit.int .i64 x).wf = true := by
  obtain ⟨v0, v1, y0, y1, n, rfl, _, _, h0, h1⟩ := Go.Joins.open_agg2 Try.underlying26 (by kernel_rfl) (by kernel_rfl) hv h
  obtain ⟨z, rfl, hz⟩ := field_int Try.underlying3 h0
  obtain ⟨A, c, l, rfl, hC, hc, hm, hw⟩ := field_ints Try.underlying24 Try.underlying3 (by kernel_rfl) h1
  exact ⟨z, A, c, l, rfl, hC, hc, hz, hm, hw⟩
end Go.Proofs.Ytengegdaiphfeaa.X
end
section
namespace Go.Proofs.Ytengegdaiphfeaa.Y
open Go.RowKit Go.Proofs.Ytengegdaiphfeaa.X Go.Proofs.YtengegdaiphfeaaW.PrintWords Go.Proofs.YtengegdaiphfeaaW.PrintLast Go.Proofs.YtengegdaiphfeaaW.PrintMore
set_option linter.unusedVariables false
set_option linter.unusedSimpArgs false
def L (s : ByteArray) : List UInt8 := s.data.toList
theorem L_size (s : ByteArray) : s.size = (L s).length := by simp [L]
theorem L_mk (l : List UInt8) : L ⟨l.toArray⟩ = l := by simp [L]
theorem L_inj {s t : ByteArray} (h : L s = L t) : s = t := by
  cases s; cases t; simp [L] at h; subst h; rfl
theorem toList_L (s : ByteArray) : s.toList = L s := ByteArray.toList_eq s
theorem L_extract (s : ByteArray) (a b : Nat) : L (s.extract a b) = ((L s).take b).drop a := by
  simp [L, ByteArray.data_extract, Array.toList_extract, List.extract, List.drop_take]
theorem L_append (s t : ByteArray) : L (s ++ t) = L s ++ L t := by simp [L, ByteArray.data_append]
theorem L_nil {s : ByteArray} : s.toList = ([] : List UInt8) ↔ L s = [] := by rw [toList_L]
theorem bt_L (s : ByteArray) (i : Int) : bt s i = (((L s).getD i.toNat 0).toNat : Int) := by
  unfold bt L
  split
  · next h =>
    have h' : i.toNat < s.data.toList.length := by simpa using h
    rw [List.getD_eq_getElem?_getD, List.getElem?_eq_getElem h']
    simp; rfl
  · next h =>
    have h' : s.data.toList.length ≤ i.toNat := by simpa using h
    rw [List.getD_eq_getElem?_getD, List.getElem?_eq_none h']; rfl
theorem w64 {x : Int} (h0 : -9223372036854775808 ≤ x) (h1 : x ≤ 9223372036854775807) : wrap64 x = x := by unfold wrap64; omega
theorem _root_.Go.Proofs.YtengegdaiphfeaaW.PrintWords.Ev.is {α : Type} {g : Nat → Option α} {r r' : α} (h : Ev g r) (e : r = r') : Ev g r' := e ▸ h
end Go.Proofs.Ytengegdaiphfeaa.Y
end
section
namespace Go.Proofs.Ytengegdaiphfeaa.Y
open Go.RowKit Go.Proofs.Ytengegdaiphfeaa.X Go.Proofs.YtengegdaiphfeaaW.PrintWords Go.Proofs.YtengegdaiphfeaaW.PrintLast Go.Proofs.YtengegdaiphfeaaW.PrintMore
set_option linter.unusedVariables false
set_option linter.unusedSimpArgs false
theorem rd_mid (pre : List Int) (x : Int) (t : List Int) : rd (pre ++ x :: t) (pre.length : Int) = x := by simp [rd, List.getD_eq_getElem?_getD]
theorem rd_nat (l : List Int) (i : Nat) : rd l (i : Int) = l.getD i 0 := by simp [rd]
theorem snoc_len (pre : List Int) (x : Int) : (((pre ++ [x]).length : Nat) : Int) = (pre.length : Int) + 1 := by simp
theorem wf_in {n : Int} (h : (Lit.int .i64 n).wf = true) : -9223372036854775808 ≤ n ∧ n ≤ 9223372036854775807 := by
  have hmin : IntKind.i64.min = -9223372036854775808 := rfl
  have hmax : IntKind.i64.max = 9223372036854775807 := rfl
  simp only [Lit.wf, Bool.and_eq_true, decide_eq_true_eq] at h
  omega
theorem maxLen_eq : maxLen = 9223372036854775807 := rfl
theorem ev_all {α : Type} {f : Nat → Nat → Option α} {g : Nat → α} (n : Nat) (h : ∀ i, i < n → Ev (f i) (g i)) : ∃ K0, ∀ K, K0 ≤ K → ∀ i, i < n → f i K = some (g i) := by
  induction n with
  | zero => exact ⟨0, fun _ _ i hi => by omega⟩
  | succ n ih =>
    obtain ⟨K0, h0⟩ := ih (fun i hi => h i (by omega))
    obtain ⟨K1, h1⟩ := h n (by omega)
    refine ⟨max K0 K1, fun K hK i hi => ?_⟩
    by_cases e : i = n
    · subst e; exact h1 K (by omega)
    · exact h0 K (by omega) i (by omega)
theorem ev_up {α : Type} {f : Nat → Option α} {p : Nat → Nat → Option α} {r : α} (h : Ev f r) (hp : ∃ K0, ∀ K, K0 ≤ K → ∀ j, LeO (f j) (p K (j + 1))) (hm : ∀ K j, LeO (p K j) (p K (j + 1))) : Ev (fun K => p K K) r := by
  obtain ⟨K1, h1⟩ := h
  obtain ⟨K0, h0⟩ := hp
  refine ⟨max K0 (K1 + 1), fun K hK => ?_⟩
  have a := h0 K (by omega) K1 r (h1 K1 (Nat.le_refl _))
  exact at_rounds (g := p K) (hm K) (show K1 + 1 ≤ K by omega) a
theorem ev_some {α : Type} {f : Nat → Option α} {r : α} (h : ∀ k, f k = some r) : Ev f r := ⟨0, fun k _ => h k⟩
theorem up_loop {β : Type} (n : Nat) (L : Nat → Nat → Option β) (r : β) (step : ∀ i, i < n → Ev (L (i + 1)) r → Ev (L i) r) (h : Ev (L n) r) : Ev (L 0) r := by
  have go : ∀ d, d ≤ n → Ev (L (n - d)) r := by
    intro d
    induction d with
    | zero => intro _; exact h
    | succ d ih =>
      intro hd
      have e : n - (d + 1) + 1 = n - d := by omega
      exact step (n - (d + 1)) (by omega) (by rw [e]; exact ih (by omega))
  have := go n (Nat.le_refl _)
  rwa [Nat.sub_self] at this
def tab (N : Nat) (F : Nat → Int) : List Int := (List.range N).map F
theorem tab_length (N : Nat) (F : Nat → Int) : (tab N F).length = N := by simp [tab]
theorem tab_snoc (N : Nat) (F : Nat → Int) : tab N F ++ [F N] = tab (N + 1) F := by simp [tab, List.range_succ]
theorem tab_get (N : Nat) (F : Nat → Int) (j : Nat) (h : j < N) : (tab N F).getD j 0 = F j := by
  simp [tab, List.getD_eq_getElem?_getD, List.getElem?_map, List.getElem?_range h]
theorem tab_congr (N : Nat) (F G : Nat → Int) (h : ∀ j, j < N → F j = G j) : tab N F = tab N G := by
  unfold tab
  exact List.map_congr_left (fun j hj => h j (List.mem_range.mp hj))
theorem mem_tab {N : Nat} {F : Nat → Int} {x : Int} : x ∈ tab N F ↔ ∃ j, j < N ∧ F j = x := by simp [tab]
theorem eq_tab (l : List Int) (N : Nat) (h : l.length = N) : l = tab N (fun j => l.getD j 0) := by
  apply List.ext_getElem
  · simp [tab, h]
  · intro i h1 h2
    simp [tab, List.getD_eq_getElem?_getD, List.getElem?_eq_getElem h1]
theorem fold_snoc {β : Type} (n : Nat) (f : β → Nat → β) (b : β) : (List.range (n + 1)).foldl f b = f ((List.range n).foldl f b) n := by simp [List.range_succ]
end Go.Proofs.Ytengegdaiphfeaa.Y
end
section
namespace Go.Proofs.Ytengegdaiphfeaa.Y
open Go.RowKit Go.Proofs.Ytengegdaiphfeaa.X Go.Proofs.YtengegdaiphfeaaW.PrintWords Go.Proofs.YtengegdaiphfeaaW.PrintLast Go.Proofs.YtengegdaiphfeaaW.PrintMore
set_option linter.unusedVariables false
set_option linter.unusedSimpArgs false
theorem toIntS_ev (l : List Int) (h : l.length ≤ 1048576) : Ev (fun k => laws_toIntS.f k l) l := by
  have go : ∀ (t pre : List Int), l = pre ++ t → Ev (fun k => laws_toIntS.l0 k l (pre ++ List.replicate t.length 0) (pre.length : Int)) l := by
    intro t
    induction t with
    | nil =>
      intro pre hl
      refine Ev.step (f := fun _ => some l) (fun k => ?_) (Ev.now _)
      simp only [laws_toIntS.l0]
      rw [if_neg (by rw [hl]; simp)]
      simp [hl]
    | cons x t ih =>
      intro pre hl
      have hlen : l.length = pre.length + (t.length + 1) := by rw [hl]; simp
      refine Ev.step (fun k => ?_) (ih (pre ++ [x]) (by simp [hl]))
      simp only [laws_toIntS.l0]
      rw [if_pos (by omega), if_pos (by omega), if_pos (by simp; omega), w64 (by omega) (by omega), hl, rd_mid, snoc_len, ← hl]
      congr 1
      simp [List.replicate_succ, List.set_append]
  refine Ev.congr (fun k => ?_) (go l [] rfl)
  unfold laws_toIntS.f
  rw [if_pos (by omega), if_pos (by omega)]
  simp
theorem eqIntS_ev (a b : List Int) (h : a.length ≤ 1000000000) : Ev (fun k => laws_eqIntS.f k a b) (decide (a = b)) := by
  by_cases hl : a.length = b.length
  · have go : ∀ (t u pre : List Int), a = pre ++ t → b = pre ++ u → Ev (fun k => laws_eqIntS.l0 k a b (pre.length : Int)) (decide (a = b)) := by
      intro t
      induction t with
      | nil =>
        intro u pre ha hb
        have hu : u = [] := by
          have h1 := congrArg List.length ha
          have h2 := congrArg List.length hb
          simp at h1 h2
          exact List.length_eq_zero_iff.mp (by omega)
        subst hu
        have hab : a = b := by rw [ha, hb]
        refine Ev.step (f := fun _ => some true) (fun k => ?_) ((Ev.now _).is (by rw [decide_eq_true hab]))
        simp only [laws_eqIntS.l0]
        rw [if_neg (by rw [ha]; simp)]
      | cons x t ih =>
        intro u pre ha hb
        have hla : a.length = pre.length + (t.length + 1) := by rw [ha]; simp
        cases u with
        | nil => have h2 := congrArg List.length hb; simp at h2; omega
        | cons y u =>
          by_cases hxy : x = y
          · subst hxy
            refine Ev.step (fun k => ?_) (ih u (pre ++ [x]) (by simp [ha]) (by simp [hb]))
            simp only [laws_eqIntS.l0]
            rw [if_pos (by omega), if_pos (by omega), if_pos (by omega), w64 (by omega) (by omega), snoc_len, if_pos (by rw [ha, hb, rd_mid, rd_mid])]
          · have hab : ¬ a = b := by
              intro e
              rw [ha, hb] at e
              have := List.append_cancel_left e
              simp at this
              exact hxy this.1
            refine Ev.step (f := fun _ => some false) (fun k => ?_) ((Ev.now _).is (by rw [decide_eq_false hab]))
            simp only [laws_eqIntS.l0]
            rw [if_pos (by omega), if_pos (by omega), if_pos (by omega), if_neg (by rw [ha, hb, rd_mid, rd_mid]; exact hxy)]
    refine Ev.congr (fun k => ?_) (go a b [] rfl rfl)
    unfold laws_eqIntS.f
    rw [if_pos (by omega)]; rfl
  · have hab : ¬ a = b := fun e => hl (by rw [e])
    refine Ev.congr (f := fun _ => some false) (fun k => ?_) ((Ev.now _).is (by rw [decide_eq_false hab]))
    unfold laws_eqIntS.f
    rw [if_neg (by omega)]
theorem toMatrix_ev (n : Int) (l : List Int) (h : l.length ≤ 1048576) : Ev (fun k => laws_toMatrix.f k n l) (n, l) := by
  refine Ev.congr (f := ?f1) (fun k => ?h1) ?k1
  case h1 => unfold laws_toMatrix.f; exact rfl
  exact Ev.bind (toIntS_ev l h) (Ev.now _)
theorem eqMatrix_ev (n : Int) (l : List Int) (h : l.length ≤ 1000000000) : Ev (fun k => laws_eqMatrix.f k n l n l) true := by
  refine Ev.congr (f := ?f2) (fun k => ?h2) ?k2
  case h2 => unfold laws_eqMatrix.f; rw [if_pos rfl] <;> exact rfl
  exact Ev.bind (eqIntS_ev l l h) (Ev.congr (f := fun _ => some true) (fun k => by simp) (Ev.now _))
theorem szMatrix_eq (n : Int) (l : List Int) (z : Int) (h : l.length ≤ maxLen) (h0 : 0 ≤ z) (h1 : z ≤ 1048576) : laws_szMatrix.f n l z = some (if (l.length : Int) ≤ z then z - l.length else -1) := by
  rw [maxLen_eq] at h
  unfold laws_szMatrix.f laws_szIntS.f
  rw [w64 (by omega) (by omega)]
  by_cases hl : (l.length : Int) ≤ z
  · rw [if_neg (by omega), if_pos hl, Option.bind_some, if_neg (by omega)]
  · rw [if_pos (by omega), if_neg hl]; rfl
theorem Ev_t {α : Type} {f g : Nat → Option α} {r : α} {c : Prop} [Decidable c] (h : c) (k : Ev f r) : Ev (fun n => if c then f n else g n) r := Ev.congr (fun n => if_pos h) k
theorem Ev_f {α : Type} {f g : Nat → Option α} {r : α} {c : Prop} [Decidable c] (h : ¬ c) (k : Ev g r) : Ev (fun n => if c then f n else g n) r := Ev.congr (fun n => if_neg h) k
theorem Ev_sz {α : Type} {o : Option Int} {z : Int} {g : Nat → Int → Option α} {r : α} (h : o = some z) (k : Ev (fun n => g n z) r) : Ev (fun n => o.bind (g n)) r := Ev.congr (fun n => by rw [h]; rfl) k
end Go.Proofs.Ytengegdaiphfeaa.Y
end
section
namespace Go.Proofs.Ytengegdaiphfeaa.Y
open Go.RowKit Go.Proofs.Ytengegdaiphfeaa.X Go.Proofs.YtengegdaiphfeaaW.PrintWords Go.Proofs.YtengegdaiphfeaaW.PrintLast Go.Proofs.YtengegdaiphfeaaW.PrintMore
set_option linter.unusedVariables false
set_option linter.unusedSimpArgs false
def count : Int → Nat → List Int
  | _, 0 => []
  | k, n + 1 => k :: count (k + 1) n
theorem count_length (n : Nat) : ∀ k, (count k n).length = n := by induction n with
  | zero => intro k; rfl
  | succ n ih => intro k; simp [count, ih]
theorem markIntS_ev (l : List Int) (c : Int) (h : l.length ≤ 1000000000) (h0 : 0 ≤ c) (h1 : c ≤ 1000000000) : Ev (fun k => laws_markIntS.f k l c) (c + l.length, count c l.length) := by
  have go : ∀ (t pre : List Int) (m : Int), pre.length + t.length = l.length → m = c + pre.length → Ev (fun k => laws_markIntS.l0 k (pre ++ t) m (pre.length : Int)) (c + l.length, pre ++ count m t.length) := by
    intro t
    induction t with
    | nil =>
      intro pre m hl hm
      refine Ev.step (f := fun _ => some (m, pre)) (fun k => ?_) ((Ev.now _).is ?_)
      · simp only [laws_markIntS.l0]; rw [if_neg (by simp)]; simp
      · simp at hl; simp [count]; omega
    | cons x t ih =>
      intro pre m hl hm
      simp at hl
      have i := ih (pre ++ [m]) (m + 1) (by simp; omega) (by simp; omega)
      refine Ev.step (fun k => ?_) (i.is (by simp [count]))
      simp only [laws_markIntS.l0]
      rw [if_pos (by simp; omega), if_pos (by omega), w64 (by omega) (by omega), w64 (by omega) (by omega), snoc_len]
      congr 1
      simp [List.set_append]
  exact (go l [] c (by simp) (by simp))
theorem heldIntS_ev (n : Nat) (c : Int) (h : n ≤ 1000000000) (h0 : 0 ≤ c) (h1 : c ≤ 1000000000) : Ev (fun k => laws_heldIntS.f k (count c n) c) (c + n) := by
  have go : ∀ (m : Nat) (pre : List Int) (z : Int), pre.length + m = n → z = c + pre.length → Ev (fun k => laws_heldIntS.l0 k (pre ++ count z m) z (pre.length : Int)) (c + n) := by
    intro m
    induction m with
    | zero =>
      intro pre z hl hz
      refine Ev.step (f := fun _ => some z) (fun k => ?_) ((Ev.now _).is (by omega))
      simp only [laws_heldIntS.l0]; rw [if_neg (by simp [count])]
    | succ m ih =>
      intro pre z hl hz
      have i := ih (pre ++ [z]) (z + 1) (by simp; omega) (by simp; omega)
      show Ev (fun k => laws_heldIntS.l0 k (pre ++ z :: count (z + 1) m) z (pre.length : Int)) (c + n)
      refine Ev.step (fun k => ?_) i
      simp only [laws_heldIntS.l0]
      rw [if_pos (by simp [count_length]; omega), if_pos (by omega), if_pos (by rw [rd_mid]), w64 (by omega) (by omega), w64 (by omega) (by omega), snoc_len]
      simp
  exact go n [] c (by simp) (by simp)
theorem markMatrix_ev (n : Int) (l : List Int) (c : Int) (h : l.length ≤ 1000000000) (h0 : 0 ≤ c) (h1 : c ≤ 1000000000) : Ev (fun k => laws_markMatrix.f k n l c) (c + l.length, count c l.length) := by
  refine Ev.congr (f := ?f1) (fun k => ?h1) ?k1
  case h1 => unfold laws_markMatrix.f; exact rfl
  exact Ev.bind (markIntS_ev l c h h0 h1) (Ev.now _)
theorem heldMatrix_ev (n : Int) (m : Nat) (c : Int) (h : m ≤ 1000000000) (h0 : 0 ≤ c) (h1 : c ≤ 1000000000) : Ev (fun k => laws_heldMatrix.f k n (count c m) c) (c + m) := by
  refine Ev.congr (f := ?f2) (fun k => ?h2) ?k2
  case h2 => unfold laws_heldMatrix.f; exact rfl
  exact Ev.bind (heldIntS_ev m c h h0 h1) (Ev.congr (f := fun _ => some (c + m)) (fun k => by rw [if_neg (by omega)]) (Ev.now _))
end Go.Proofs.Ytengegdaiphfeaa.Y
end
