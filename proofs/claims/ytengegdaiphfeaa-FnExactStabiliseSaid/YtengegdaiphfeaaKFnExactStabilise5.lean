import Derived.Test.YtengegdaiphfeaaKFnExactStabilise1
import Derived.Test.YtengegdaiphfeaaKFnExactStabilise2
import Derived.Test.YtengegdaiphfeaaKFnExactStabilise3
import Derived.Test.YtengegdaiphfeaaKFnExactStabilise4
section
namespace Go.Proofs.Ytengegdaiphfeaa.X
open Go.RowKit Go.Proofs.YtengegdaiphfeaaW.PrintWords Go.Proofs.YtengegdaiphfeaaW.PrintLast Go.Proofs.YtengegdaiphfeaaW.PrintMore
attribute [local go_sem] max2_int min2_int max_two min_two max_three min_three max_four min_four
set_option linter.unusedVariables false
set_option linter.unusedSimpArgs false
def spec_MulGrades.f (k : Nat) (a0_0 : Int) (l0_1 : List Int) (a1_0 : Int) (l1_1 : List Int) : Option (Int × List Int × Bool) := (spec_GradesValid.f k a0_0 l0_1).bind fun t341 => (if t341 = true then ((spec_GradesValid.f k a1_0 l1_1).bind fun t342 => (if t342 = true then (if a0_0 = a1_0 then ((spec_l6Mul.f k a0_0 l0_1 a1_0 l1_1).bind fun bt343 => (some (bt343.1, bt343.2, true))) else (some (0, ([] : List Int), false))) else (some (0, ([] : List Int), false)))) else (some (0, ([] : List Int), false)))
theorem spec_MulGrades.mono : ∀ a0 a1 a2 a3 k, LeO (spec_MulGrades.f k a0 a1 a2 a3) (spec_MulGrades.f (k + 1) a0 a1 a2 a3) := by
  intro a0 a1 a2 a3 k
  unfold spec_MulGrades.f
  repeat' first
      | (with_reducible exact spec_GradesValid.mono _ _ _)
      | (with_reducible exact spec_l6Mul.mono _ _ _ _ _)
      | (with_reducible exact LeO.refl _)
      | (with_reducible exact LeO.none _)
      | (with_reducible refine LeO.ite ?_ ?_)
      | (with_reducible refine LeO.bind ?_ (fun _ => ?_))
      | exact spec_GradesValid.mono _ _ _
      | exact spec_l6Mul.mono _ _ _ _ _
      | exact LeO.none _
      | refine LeO.ite ?_ ?_
      | refine LeO.bind ?_ (fun _ => ?_)
set_option maxHeartbeats 8000000 in
set_option maxRecDepth 100000 in
theorem spec_MulGrades.calls (k : Nat) (a0_0 : Int) (A0_1 : Option Addr) (c0_1 : Nat) (l0_1 : List Int) (a1_0 : Int) (A1_1 : Option Addr) (c1_1 : Nat) (l1_1 : List Int) (r1 : Int) (r2 : List Int) (r3 : Bool) (w : World) (hr0_1 : Kd.C (Kd.int .i64) w A0_1 l0_1.length l0_1) (hc0_1 : l0_1.length ≤ c0_1) (hr1_1 : Kd.C (Kd.int .i64) w A1_1 l1_1.length l1_1) (hc1_1 : l1_1.length ≤ c1_1) (h : spec_MulGrades.f k a0_0 l0_1 a1_0 l1_1 = some (r1, r2, r3)) :
    Calls Try.prog 26 #[.agg #[.int .i64 a0_0, .slice A0_1 l0_1.length c0_1], .agg #[.int .i64 a1_0, .slice A1_1 l1_1.length c1_1]] w fun e w' => ∃ v1_ : Value, e = .returned (.tuple #[.agg #[.int .i64 r1, v1_], .bool r3]) ∧ Kd.R (Kd.int .i64) 3 w' w.heap.size (fun _ => True) v1_ r2 ∧ Below w.heap.size w w' := by
  have hu28 := Try.underlying28
  have HR0_1 := Aside0.mk hr0_1
  have HC0_1 := Aside0.mk hc0_1
  clear hr0_1 hc0_1
  have HR1_1 := Aside0.mk hr1_1
  have HC1_1 := Aside0.mk hc1_1
  clear hr1_1 hc1_1
  have HB := Aside0.mk (Below.refl w.heap.size w)
  have H : ((spec_GradesValid.f k a0_0 l0_1).bind fun t341 => (if t341 = true then ((spec_GradesValid.f k a1_0 l1_1).bind fun t342 => (if t342 = true then (if a0_0 = a1_0 then ((spec_l6Mul.f k a0_0 l0_1 a1_0 l1_1).bind fun bt343 => (some (bt343.1, bt343.2, true))) else (some (0, ([] : List Int), false))) else (some (0, ([] : List Int), false)))) else (some (0, ([] : List Int), false)))) = some (r1, r2, r3) := h
  clear h
  replace H := Option.bind_eq_some_iff.mp H
  obtain ⟨t341, A30, H⟩ := H
  replace H : (if t341 = true then ((spec_GradesValid.f k a1_0 l1_1).bind fun t342 => (if t342 = true then (if a0_0 = a1_0 then ((spec_l6Mul.f k a0_0 l0_1 a1_0 l1_1).bind fun bt343 => (some (bt343.1, bt343.2, true))) else (some (0, ([] : List Int), false))) else (some (0, ([] : List Int), false)))) else (some (0, ([] : List Int), false))) = some (r1, r2, r3) := H
  have A3 := Aside0.mk A30
  clear A30
  by_cases c4 : t341 = true
  · subst c4
    have H1 : ((spec_GradesValid.f k a1_0 l1_1).bind fun t342 => (if t342 = true then (if a0_0 = a1_0 then ((spec_l6Mul.f k a0_0 l0_1 a1_0 l1_1).bind fun bt343 => (some (bt343.1, bt343.2, true))) else (some (0, ([] : List Int), false))) else (some (0, ([] : List Int), false)))) = some (r1, r2, r3) := by rw [if_pos rfl] at H; exact H
    clear H
    have H := H1
    clear H1
    replace H := Option.bind_eq_some_iff.mp H
    obtain ⟨t342, A50, H⟩ := H
    replace H : (if t342 = true then (if a0_0 = a1_0 then ((spec_l6Mul.f k a0_0 l0_1 a1_0 l1_1).bind fun bt343 => (some (bt343.1, bt343.2, true))) else (some (0, ([] : List Int), false))) else (some (0, ([] : List Int), false))) = some (r1, r2, r3) := H
    have A5 := Aside0.mk A50
    clear A50
    by_cases c6 : t342 = true
    · subst c6
      have H1 : (if a0_0 = a1_0 then ((spec_l6Mul.f k a0_0 l0_1 a1_0 l1_1).bind fun bt343 => (some (bt343.1, bt343.2, true))) else (some (0, ([] : List Int), false))) = some (r1, r2, r3) := by rw [if_pos rfl] at H; exact H
      clear H
      have H := H1
      clear H1
      by_cases c7 : a0_0 = a1_0
      · rw [if_pos c7] at H
        have c7b0 : (a0_0 == a1_0) = true := beq_iff_eq.mpr c7
        have c7b1 : (a0_0 != a1_0) = false := bne_eq_false_iff_eq.mpr c7
        clear c7
        replace H := Option.bind_eq_some_iff.mp H
        obtain ⟨⟨t343, t344⟩, A80, H⟩ := H
        replace H : (some (t343, t344, true)) = some (r1, r2, r3) := H
        have A8 := Aside0.mk A80
        clear A80
        simp only [Option.some.injEq, Prod.mk.injEq] at H
        obtain ⟨rfl, rfl, rfl⟩ := H
        go_enter Try.func26, Try.ntmps26
        go_wp2_with (first | ((with_reducible refine gate_dst (N := 2) rfl ?_); refine box_event ?hg (N := 2) ?hd (cs := #[.int .i64 a0_0, .slice A0_1 l0_1.length c0_1]) (t := 28) ?hr ?_; (case hd => rfl); (case hg => rfl); (case hr => first | (go_simp; done) | (go_simp; rfl)); intro gb338 hg w9 hbox hb; have n0_ := Aside0.mk (below_step (by repeat (first | (with_reducible first | exact HB.out | apply below_alloc | apply pw_below_drewN | apply below_drew1) | exact HB.out)) hb); have n1_ := Aside0.mk (hbox); have n2_ := Aside0.mk ((by rw [hg]; exact (below_size (by repeat (first | (with_reducible first | exact HB.out | apply below_alloc | apply pw_below_drewN | apply below_drew1) | exact HB.out))) : w.heap.size ≤ gb338)); have n3_ := Aside0.mk ((by rw [hg]; exact (below_size (by repeat (first | (with_reducible first | exact HB.out | apply below_alloc | apply pw_below_drewN | apply below_drew1) | exact HB.out))) : w.heap.size ≤ gb338)); clear HB; have HB := n0_; have BK338 := n1_; have GW338 := n2_; have GE338 := n3_; clear n0_ n1_ n2_ n3_; clear hb hbox hg) | ((with_reducible refine gate_dst (N := 3) rfl ?_); refine box_event ?hg (N := 3) ?hd (cs := #[.int .i64 a1_0, .slice A1_1 l1_1.length c1_1]) (t := 28) ?hr ?_; (case hd => rfl); (case hg => rfl); (case hr => first | (go_simp; done) | (go_simp; rfl)); intro gb339 hg w10 hbox hb; have n0_ := Aside0.mk (blk_below (g := gb338) (o := .cells #[.int .i64 a0_0, .slice A0_1 l0_1.length c0_1] 28 (0, 0)) (by (with_reducible repeat (first | refine blk_drewN ?_ _ | refine blk_drew ?_ | refine blk_alloc ?_ _)); exact BK338.out) hb); have n1_ := Aside0.mk (below_step (by repeat (first | (with_reducible first | exact HB.out | apply below_alloc | apply pw_below_drewN | apply below_drew1 | refine below_set ?_ GE338.out) | exact HB.out)) hb); have n2_ := Aside0.mk (hbox); have n3_ := Aside0.mk ((by rw [hg]; exact (below_size (by repeat (first | (with_reducible first | exact HB.out | apply below_alloc | apply pw_below_drewN | apply below_drew1 | refine below_set ?_ GE338.out) | exact HB.out))) : w.heap.size ≤ gb339)); have n4_ := Aside0.mk ((by rw [hg]; exact (below_size (by repeat (first | (with_reducible first | exact HB.out | apply below_alloc | apply pw_below_drewN | apply below_drew1 | refine below_set ?_ GE338.out) | exact HB.out))) : w.heap.size ≤ gb339)); have n5_ := Aside0.mk ((by rw [hg]; exact Nat.ne_of_lt (blk_lt (g := gb338) (o := .cells #[.int .i64 a0_0, .slice A0_1 l0_1.length c0_1] 28 (0, 0)) (by (with_reducible repeat (first | refine blk_drewN ?_ _ | refine blk_drew ?_ | refine blk_alloc ?_ _)); exact BK338.out)) : gb338 ≠ gb339)); have n6_ := Aside0.mk ((by rw [hg]; exact Nat.ne_of_gt (blk_lt (g := gb338) (o := .cells #[.int .i64 a0_0, .slice A0_1 l0_1.length c0_1] 28 (0, 0)) (by (with_reducible repeat (first | refine blk_drewN ?_ _ | refine blk_drew ?_ | refine blk_alloc ?_ _)); exact BK338.out)) : gb339 ≠ gb338)); clear BK338; clear HB; have BK338 := n0_; have HB := n1_; have BK339 := n2_; have GW339 := n3_; have GE339 := n4_; have NB338_339 := n5_; have NB339_338 := n6_; clear n0_ n1_ n2_ n3_ n4_ n5_ n6_; clear hb hbox hg) | ((with_reducible refine gate_dst (N := 4) rfl ?_); refine box_event ?hg (N := 4) ?hd (cs := #[.int .i64 0, .slice none 0 0]) (t := 28) ?hr ?_; (case hd => rfl); (case hg => rfl); (case hr => first | (go_simp; done) | (go_simp; rfl)); intro gb340 hg w11 hbox hb; have n0_ := Aside0.mk (blk_below (g := gb338) (o := .cells #[.int .i64 a0_0, .slice A0_1 l0_1.length c0_1] 28 (0, 0)) (by (with_reducible repeat (first | refine blk_drewN ?_ _ | refine blk_drew ?_ | refine blk_alloc ?_ _)); exact BK338.out) hb); have n1_ := Aside0.mk (blk_below (g := gb339) (o := .cells #[.int .i64 a1_0, .slice A1_1 l1_1.length c1_1] 28 (0, 0)) (by (with_reducible repeat (first | refine blk_drewN ?_ _ | refine blk_drew ?_ | refine blk_alloc ?_ _)); exact BK339.out) hb); have n2_ := Aside0.mk (below_step (by repeat (first | (with_reducible first | exact HB.out | apply below_alloc | apply pw_below_drewN | apply below_drew1 | refine below_set ?_ GE338.out | refine below_set ?_ GE339.out) | exact HB.out)) hb); have n3_ := Aside0.mk (hbox); have n4_ := Aside0.mk ((by rw [hg]; exact (below_size (by repeat (first | (with_reducible first | exact HB.out | apply below_alloc | apply pw_below_drewN | apply below_drew1 | refine below_set ?_ GE338.out | refine below_set ?_ GE339.out) | exact HB.out))) : w.heap.size ≤ gb340)); have n5_ := Aside0.mk ((by rw [hg]; exact (below_size (by repeat (first | (with_reducible first | exact HB.out | apply below_alloc | apply pw_below_drewN | apply below_drew1 | refine below_set ?_ GE338.out | refine below_set ?_ GE339.out) | exact HB.out))) : w.heap.size ≤ gb340)); have n6_ := Aside0.mk ((by rw [hg]; exact Nat.ne_of_lt (blk_lt (g := gb338) (o := .cells #[.int .i64 a0_0, .slice A0_1 l0_1.length c0_1] 28 (0, 0)) (by (with_reducible repeat (first | refine blk_drewN ?_ _ | refine blk_drew ?_ | refine blk_alloc ?_ _)); exact BK338.out)) : gb338 ≠ gb340)); have n7_ := Aside0.mk ((by rw [hg]; exact Nat.ne_of_gt (blk_lt (g := gb338) (o := .cells #[.int .i64 a0_0, .slice A0_1 l0_1.length c0_1] 28 (0, 0)) (by (with_reducible repeat (first | refine blk_drewN ?_ _ | refine blk_drew ?_ | refine blk_alloc ?_ _)); exact BK338.out)) : gb340 ≠ gb338)); have n8_ := Aside0.mk ((by rw [hg]; exact Nat.ne_of_lt (blk_lt (g := gb339) (o := .cells #[.int .i64 a1_0, .slice A1_1 l1_1.length c1_1] 28 (0, 0)) (by (with_reducible repeat (first | refine blk_drewN ?_ _ | refine blk_drew ?_ | refine blk_alloc ?_ _)); exact BK339.out)) : gb339 ≠ gb340)); have n9_ := Aside0.mk ((by rw [hg]; exact Nat.ne_of_gt (blk_lt (g := gb339) (o := .cells #[.int .i64 a1_0, .slice A1_1 l1_1.length c1_1] 28 (0, 0)) (by (with_reducible repeat (first | refine blk_drewN ?_ _ | refine blk_drew ?_ | refine blk_alloc ?_ _)); exact BK339.out)) : gb340 ≠ gb339)); clear BK338; clear BK339; clear HB; have BK338 := n0_; have BK339 := n1_; have HB := n2_; have BK340 := n3_; have GW340 := n4_; have GE340 := n5_; have NB338_340 := n6_; have NB340_338 := n7_; have NB339_340 := n8_; have NB340_339 := n9_; clear n0_ n1_ n2_ n3_ n4_ n5_ n6_ n7_ n8_ n9_; clear hb hbox hg; have hnb12 := NB338_339.out; have hnc12 := NB339_338.out; have hnb13 := NB338_340.out; have hnc13 := NB340_338.out; have hcz14_0 : w11.cell? ⟨gb338, 0, none⟩ = some (.int .i64 a0_0) := (blk_cell BK338.out 0).trans rfl; have hcz14_1 : w11.cell? ⟨gb338, 1, none⟩ = some (.slice A0_1 l0_1.length c0_1) := (blk_cell BK338.out 1).trans rfl; have hfz14_0 := blk_frozen BK338.out 0; have hfz14_1 := blk_frozen BK338.out 1) | ((with_reducible refine gate_callee (f := 65) rfl ?_); refine goesL_ (some 7) rfl rfl Try.func65 (by kernel_rfl) rfl #[.agg #[.int .i64 a0_0, .slice A0_1 l0_1.length c0_1]] rfl (by (try simp only [List.map_toArray, List.map_cons, List.map_nil]); first | done | rfl | (simp only [List.length_drop, List.length_take]; rfl)) ?_; (with_reducible refine (spec_GradesValid.calls k a0_0 _ _ l0_1 true _ ?side1 ?side2 A3.out).mono ?_); (case side1 => repeat (first | exact (Kd.C_below HR0_1.out HB.out) | (with_reducible refine Kd.C_alloc ?_ _) | (with_reducible refine Kd.C_drewN ?_ _) | (with_reducible refine Kd.C_drew ?_))); (case side2 => exact HC0_1.out); rintro e w15 ⟨rfl, hb⟩; refine ⟨_, rfl, ?_⟩; have n0_ := Aside0.mk (blk_below (g := gb338) (o := .cells #[.int .i64 a0_0, .slice A0_1 l0_1.length c0_1] 28 (0, 0)) (by (with_reducible repeat (first | refine blk_drewN ?_ _ | refine blk_drew ?_ | refine blk_alloc ?_ _)); exact BK338.out) hb); have n1_ := Aside0.mk (blk_below (g := gb339) (o := .cells #[.int .i64 a1_0, .slice A1_1 l1_1.length c1_1] 28 (0, 0)) (by (with_reducible repeat (first | refine blk_drewN ?_ _ | refine blk_drew ?_ | refine blk_alloc ?_ _)); exact BK339.out) hb); have n2_ := Aside0.mk (blk_below (g := gb340) (o := .cells #[.int .i64 0, .slice none 0 0] 28 (0, 0)) (by (with_reducible repeat (first | refine blk_drewN ?_ _ | refine blk_drew ?_ | refine blk_alloc ?_ _)); exact BK340.out) hb); have n3_ := Aside0.mk (below_step (by repeat (first | (with_reducible first | exact HB.out | apply below_alloc | apply pw_below_drewN | apply below_drew1 | refine below_set ?_ GE338.out | refine below_set ?_ GE339.out | refine below_set ?_ GE340.out) | exact HB.out)) hb); clear BK338; clear BK339; clear BK340; clear HB; have BK338 := n0_; have BK339 := n1_; have BK340 := n2_; have HB := n3_; clear n0_ n1_ n2_ n3_; (try clear hb); (try clear hb2); (try clear hk); (try clear hi); have hnb16 := NB339_340.out; have hnc16 := NB340_339.out; have hcz17_0 : w15.cell? ⟨gb339, 0, none⟩ = some (.int .i64 a1_0) := (blk_cell BK339.out 0).trans rfl; have hcz17_1 : w15.cell? ⟨gb339, 1, none⟩ = some (.slice A1_1 l1_1.length c1_1) := (blk_cell BK339.out 1).trans rfl; have hfz17_0 := blk_frozen BK339.out 0; have hfz17_1 := blk_frozen BK339.out 1) | (go_at_call 65; (with_reducible refine (spec_GradesValid.calls k a1_0 _ _ l1_1 true _ ?side1 ?side2 A5.out).mono ?_); (case side1 => repeat (first | exact (Kd.C_below HR1_1.out HB.out) | (with_reducible refine Kd.C_alloc ?_ _) | (with_reducible refine Kd.C_drewN ?_ _) | (with_reducible refine Kd.C_drew ?_))); (case side2 => exact HC1_1.out); rintro e w18 ⟨rfl, hb⟩; have n0_ := Aside0.mk (blk_below (g := gb338) (o := .cells #[.int .i64 a0_0, .slice A0_1 l0_1.length c0_1] 28 (0, 0)) (by (with_reducible repeat (first | refine blk_drewN ?_ _ | refine blk_drew ?_ | refine blk_alloc ?_ _)); exact BK338.out) hb); have n1_ := Aside0.mk (blk_below (g := gb339) (o := .cells #[.int .i64 a1_0, .slice A1_1 l1_1.length c1_1] 28 (0, 0)) (by (with_reducible repeat (first | refine blk_drewN ?_ _ | refine blk_drew ?_ | refine blk_alloc ?_ _)); exact BK339.out) hb); have n2_ := Aside0.mk (blk_below (g := gb340) (o := .cells #[.int .i64 0, .slice none 0 0] 28 (0, 0)) (by (with_reducible repeat (first | refine blk_drewN ?_ _ | refine blk_drew ?_ | refine blk_alloc ?_ _)); exact BK340.out) hb); have n3_ := Aside0.mk (below_step (by repeat (first | (with_reducible first | exact HB.out | apply below_alloc | apply pw_below_drewN | apply below_drew1 | refine below_set ?_ GE338.out | refine below_set ?_ GE339.out | refine below_set ?_ GE340.out) | exact HB.out)) hb); clear BK338; clear BK339; clear BK340; clear HB; have BK338 := n0_; have BK339 := n1_; have BK340 := n2_; have HB := n3_; clear n0_ n1_ n2_ n3_; (try clear hb); (try clear hb2); (try clear hk); (try clear hi); have hcz19_0 : w18.cell? ⟨gb338, 0, none⟩ = some (.int .i64 a0_0) := (blk_cell BK338.out 0).trans rfl; have hcz19_1 : w18.cell? ⟨gb338, 1, none⟩ = some (.slice A0_1 l0_1.length c0_1) := (blk_cell BK338.out 1).trans rfl; have hfz19_0 := blk_frozen BK338.out 0; have hfz19_1 := blk_frozen BK338.out 1; have hcz20_0 : w18.cell? ⟨gb339, 0, none⟩ = some (.int .i64 a1_0) := (blk_cell BK339.out 0).trans rfl; have hcz20_1 : w18.cell? ⟨gb339, 1, none⟩ = some (.slice A1_1 l1_1.length c1_1) := (blk_cell BK339.out 1).trans rfl; have hfz20_0 := blk_frozen BK339.out 0; have hfz20_1 := blk_frozen BK339.out 1) | ((with_reducible refine gate_callee (f := 68) rfl ?_); refine goesL_ (some 24) rfl rfl Try.func68 (by kernel_rfl) rfl #[.agg #[.int .i64 a0_0, .slice A0_1 l0_1.length c0_1], .agg #[.int .i64 a1_0, .slice A1_1 l1_1.length c1_1]] rfl (by (try simp only [List.map_toArray, List.map_cons, List.map_nil]); first | done | rfl | (simp only [List.length_drop, List.length_take]; rfl)) ?_; (with_reducible refine (spec_l6Mul.calls k a0_0 _ _ l0_1 a1_0 _ _ l1_1 t343 t344 _ ?side1 ?side2 ?side3 ?side4 A8.out).mono ?_); (case side1 => repeat (first | exact (Kd.C_below HR0_1.out HB.out) | (with_reducible refine Kd.C_alloc ?_ _) | (with_reducible refine Kd.C_drewN ?_ _) | (with_reducible refine Kd.C_drew ?_))); (case side2 => exact HC0_1.out); (case side3 => repeat (first | exact (Kd.C_below HR1_1.out HB.out) | (with_reducible refine Kd.C_alloc ?_ _) | (with_reducible refine Kd.C_drewN ?_ _) | (with_reducible refine Kd.C_drew ?_))); (case side4 => exact HC1_1.out); rintro e w21 ⟨v345, rfl, ho0, hb⟩; refine ⟨_, rfl, ?_⟩; have n0_ := Aside0.mk (Kd.R_lower ho0 (below_size (by repeat (first | (with_reducible first | exact HB.out | apply below_alloc | apply pw_below_drewN | apply below_drew1 | refine below_set ?_ GE338.out | refine below_set ?_ GE339.out | refine below_set ?_ GE340.out) | exact HB.out)))); have n1_ := Aside0.mk (blk_below (g := gb338) (o := .cells #[.int .i64 a0_0, .slice A0_1 l0_1.length c0_1] 28 (0, 0)) (by (with_reducible repeat (first | refine blk_drewN ?_ _ | refine blk_drew ?_ | refine blk_alloc ?_ _)); exact BK338.out) hb); have n2_ := Aside0.mk (blk_below (g := gb339) (o := .cells #[.int .i64 a1_0, .slice A1_1 l1_1.length c1_1] 28 (0, 0)) (by (with_reducible repeat (first | refine blk_drewN ?_ _ | refine blk_drew ?_ | refine blk_alloc ?_ _)); exact BK339.out) hb); have n3_ := Aside0.mk (blk_below (g := gb340) (o := .cells #[.int .i64 0, .slice none 0 0] 28 (0, 0)) (by (with_reducible repeat (first | refine blk_drewN ?_ _ | refine blk_drew ?_ | refine blk_alloc ?_ _)); exact BK340.out) hb); have n4_ := Aside0.mk (below_step (by repeat (first | (with_reducible first | exact HB.out | apply below_alloc | apply pw_below_drewN | apply below_drew1 | refine below_set ?_ GE338.out | refine below_set ?_ GE339.out | refine below_set ?_ GE340.out) | exact HB.out)) hb); clear BK338; clear BK339; clear BK340; clear HB; have HO346 := n0_; have BK338 := n1_; have BK339 := n2_; have BK340 := n3_; have HB := n4_; clear n0_ n1_ n2_ n3_ n4_; (try clear hb); (try clear hb2); (try clear hk); (try clear hi); (try clear ho0); have hcz22_0 : w21.cell? ⟨gb340, 0, none⟩ = some (.int .i64 0) := (blk_cell BK340.out 0).trans rfl; have hcz22_1 : w21.cell? ⟨gb340, 1, none⟩ = some (.slice none 0 0) := (blk_cell BK340.out 1).trans rfl; have hfz22_0 := blk_frozen BK340.out 0; have hfz22_1 := blk_frozen BK340.out 1; obtain ⟨Ao23, co23, eo23⟩ := Kd.R_slice HO346.out; subst eo23))
        refine bodyPost_ret (results_ct rfl _ _ gb340 28 #[.int .i64 t343, .slice Ao23 t344.length co23] (0, 0) _ rfl (by (with_reducible repeat (first | refine blk_drewN ?_ _ | refine blk_drew ?_ | refine blk_alloc ?_ _)); refine blk_put (cs := #[.int .i64 t343, .slice none 0 0]) ?_ 1 _ rfl; (with_reducible repeat (first | refine blk_drewN ?_ _ | refine blk_drew ?_ | refine blk_alloc ?_ _)); refine blk_put (cs := #[.int .i64 0, .slice none 0 0]) ?_ 0 _ rfl; (with_reducible repeat (first | refine blk_drewN ?_ _ | refine blk_drew ?_ | refine blk_alloc ?_ _)); exact BK340.out) Try.underlying28 rfl (by kernel_rfl)) rfl ?_
        exact ⟨_, by first | rfl | (simp [errW_none, errW_some] <;> rfl) | (simp [*, errW_none, errW_some] <;> rfl), by (with_reducible repeat (first | apply Kd.R_alloc | apply Kd.R_drewN | apply Kd.R_drew)); exact Kd.R_mono (Kd.R_far (p := ⟨gb340, 1, none⟩) (Kd.R_far (p := ⟨gb340, 0, none⟩) (Kd.R_types HO346.out BK340.out (by decide)) (fun _ hk => hk.2) (.int .i64 t343)) (fun _ hk => hk.2) (.slice Ao23 t344.length co23)) (fun _ hk => trivial), by repeat (first | (with_reducible first | exact HB.out | apply below_alloc | apply pw_below_drewN | apply below_drew1 | refine below_set ?_ GE338.out | refine below_set ?_ GE339.out | refine below_set ?_ GE340.out) | exact HB.out)⟩
      · rw [if_neg c7] at H
        have c7b0 : (a0_0 == a1_0) = false := beq_eq_false_iff_ne.mpr c7
        have c7b1 : (a0_0 != a1_0) = true := bne_iff_ne.mpr c7
        simp only [Option.some.injEq, Prod.mk.injEq] at H
        obtain ⟨rfl, rfl, rfl⟩ := H
        go_enter Try.func26, Try.ntmps26
        go_wp2_with (first | ((with_reducible refine gate_dst (N := 2) rfl ?_); refine box_event ?hg (N := 2) ?hd (cs := #[.int .i64 a0_0, .slice A0_1 l0_1.length c0_1]) (t := 28) ?hr ?_; (case hd => rfl); (case hg => rfl); (case hr => first | (go_simp; done) | (go_simp; rfl)); intro gb338 hg w24 hbox hb; have n0_ := Aside0.mk (below_step (by repeat (first | (with_reducible first | exact HB.out | apply below_alloc | apply pw_below_drewN | apply below_drew1) | exact HB.out)) hb); have n1_ := Aside0.mk (hbox); have n2_ := Aside0.mk ((by rw [hg]; exact (below_size (by repeat (first | (with_reducible first | exact HB.out | apply below_alloc | apply pw_below_drewN | apply below_drew1) | exact HB.out))) : w.heap.size ≤ gb338)); have n3_ := Aside0.mk ((by rw [hg]; exact (below_size (by repeat (first | (with_reducible first | exact HB.out | apply below_alloc | apply pw_below_drewN | apply below_drew1) | exact HB.out))) : w.heap.size ≤ gb338)); clear HB; have HB := n0_; have BK338 := n1_; have GW338 := n2_; have GE338 := n3_; clear n0_ n1_ n2_ n3_; clear hb hbox hg) | ((with_reducible refine gate_dst (N := 3) rfl ?_); refine box_event ?hg (N := 3) ?hd (cs := #[.int .i64 a1_0, .slice A1_1 l1_1.length c1_1]) (t := 28) ?hr ?_; (case hd => rfl); (case hg => rfl); (case hr => first | (go_simp; done) | (go_simp; rfl)); intro gb339 hg w25 hbox hb; have n0_ := Aside0.mk (blk_below (g := gb338) (o := .cells #[.int .i64 a0_0, .slice A0_1 l0_1.length c0_1] 28 (0, 0)) (by (with_reducible repeat (first | refine blk_drewN ?_ _ | refine blk_drew ?_ | refine blk_alloc ?_ _)); exact BK338.out) hb); have n1_ := Aside0.mk (below_step (by repeat (first | (with_reducible first | exact HB.out | apply below_alloc | apply pw_below_drewN | apply below_drew1 | refine below_set ?_ GE338.out) | exact HB.out)) hb); have n2_ := Aside0.mk (hbox); have n3_ := Aside0.mk ((by rw [hg]; exact (below_size (by repeat (first | (with_reducible first | exact HB.out | apply below_alloc | apply pw_below_drewN | apply below_drew1 | refine below_set ?_ GE338.out) | exact HB.out))) : w.heap.size ≤ gb339)); have n4_ := Aside0.mk ((by rw [hg]; exact (below_size (by repeat (first | (with_reducible first | exact HB.out | apply below_alloc | apply pw_below_drewN | apply below_drew1 | refine below_set ?_ GE338.out) | exact HB.out))) : w.heap.size ≤ gb339)); have n5_ := Aside0.mk ((by rw [hg]; exact Nat.ne_of_lt (blk_lt (g := gb338) (o := .cells #[.int .i64 a0_0, .slice A0_1 l0_1.length c0_1] 28 (0, 0)) (by (with_reducible repeat (first | refine blk_drewN ?_ _ | refine blk_drew ?_ | refine blk_alloc ?_ _)); exact BK338.out)) : gb338 ≠ gb339)); have n6_ := Aside0.mk ((by rw [hg]; exact Nat.ne_of_gt (blk_lt (g := gb338) (o := .cells #[.int .i64 a0_0, .slice A0_1 l0_1.length c0_1] 28 (0, 0)) (by (with_reducible repeat (first | refine blk_drewN ?_ _ | refine blk_drew ?_ | refine blk_alloc ?_ _)); exact BK338.out)) : gb339 ≠ gb338)); clear BK338; clear HB; have BK338 := n0_; have HB := n1_; have BK339 := n2_; have GW339 := n3_; have GE339 := n4_; have NB338_339 := n5_; have NB339_338 := n6_; clear n0_ n1_ n2_ n3_ n4_ n5_ n6_; clear hb hbox hg) | ((with_reducible refine gate_dst (N := 4) rfl ?_); refine box_event ?hg (N := 4) ?hd (cs := #[.int .i64 0, .slice none 0 0]) (t := 28) ?hr ?_; (case hd => rfl); (case hg => rfl); (case hr => first | (go_simp; done) | (go_simp; rfl)); intro gb340 hg w26 hbox hb; have n0_ := Aside0.mk (blk_below (g := gb338) (o := .cells #[.int .i64 a0_0, .slice A0_1 l0_1.length c0_1] 28 (0, 0)) (by (with_reducible repeat (first | refine blk_drewN ?_ _ | refine blk_drew ?_ | refine blk_alloc ?_ _)); exact BK338.out) hb); have n1_ := Aside0.mk (blk_below (g := gb339) (o := .cells #[.int .i64 a1_0, .slice A1_1 l1_1.length c1_1] 28 (0, 0)) (by (with_reducible repeat (first | refine blk_drewN ?_ _ | refine blk_drew ?_ | refine blk_alloc ?_ _)); exact BK339.out) hb); have n2_ := Aside0.mk (below_step (by repeat (first | (with_reducible first | exact HB.out | apply below_alloc | apply pw_below_drewN | apply below_drew1 | refine below_set ?_ GE338.out | refine below_set ?_ GE339.out) | exact HB.out)) hb); have n3_ := Aside0.mk (hbox); have n4_ := Aside0.mk ((by rw [hg]; exact (below_size (by repeat (first | (with_reducible first | exact HB.out | apply below_alloc | apply pw_below_drewN | apply below_drew1 | refine below_set ?_ GE338.out | refine below_set ?_ GE339.out) | exact HB.out))) : w.heap.size ≤ gb340)); have n5_ := Aside0.mk ((by rw [hg]; exact (below_size (by repeat (first | (with_reducible first | exact HB.out | apply below_alloc | apply pw_below_drewN | apply below_drew1 | refine below_set ?_ GE338.out | refine below_set ?_ GE339.out) | exact HB.out))) : w.heap.size ≤ gb340)); have n6_ := Aside0.mk ((by rw [hg]; exact Nat.ne_of_lt (blk_lt (g := gb338) (o := .cells #[.int .i64 a0_0, .slice A0_1 l0_1.length c0_1] 28 (0, 0)) (by (with_reducible repeat (first | refine blk_drewN ?_ _ | refine blk_drew ?_ | refine blk_alloc ?_ _)); exact BK338.out)) : gb338 ≠ gb340)); have n7_ := Aside0.mk ((by rw [hg]; exact Nat.ne_of_gt (blk_lt (g := gb338) (o := .cells #[.int .i64 a0_0, .slice A0_1 l0_1.length c0_1] 28 (0, 0)) (by (with_reducible repeat (first | refine blk_drewN ?_ _ | refine blk_drew ?_ | refine blk_alloc ?_ _)); exact BK338.out)) : gb340 ≠ gb338)); have n8_ := Aside0.mk ((by rw [hg]; exact Nat.ne_of_lt (blk_lt (g := gb339) (o := .cells #[.int .i64 a1_0, .slice A1_1 l1_1.length c1_1] 28 (0, 0)) (by (with_reducible repeat (first | refine blk_drewN ?_ _ | refine blk_drew ?_ | refine blk_alloc ?_ _)); exact BK339.out)) : gb339 ≠ gb340)); have n9_ := Aside0.mk ((by rw [hg]; exact Nat.ne_of_gt (blk_lt (g := gb339) (o := .cells #[.int .i64 a1_0, .slice A1_1 l1_1.length c1_1] 28 (0, 0)) (by (with_reducible repeat (first | refine blk_drewN ?_ _ | refine blk_drew ?_ | refine blk_alloc ?_ _)); exact BK339.out)) : gb340 ≠ gb339)); clear BK338; clear BK339; clear HB; have BK338 := n0_; have BK339 := n1_; have HB := n2_; have BK340 := n3_; have GW340 := n4_; have GE340 := n5_; have NB338_340 := n6_; have NB340_338 := n7_; have NB339_340 := n8_; have NB340_339 := n9_; clear n0_ n1_ n2_ n3_ n4_ n5_ n6_ n7_ n8_ n9_; clear hb hbox hg; have hnb27 := NB338_339.out; have hnc27 := NB339_338.out; have hnb28 := NB338_340.out; have hnc28 := NB340_338.out; have hcz29_0 : w26.cell? ⟨gb338, 0, none⟩ = some (.int .i64 a0_0) := (blk_cell BK338.out 0).trans rfl; have hcz29_1 : w26.cell? ⟨gb338, 1, none⟩ = some (.slice A0_1 l0_1.length c0_1) := (blk_cell BK338.out 1).trans rfl; have hfz29_0 := blk_frozen BK338.out 0; have hfz29_1 := blk_frozen BK338.out 1) | ((with_reducible refine gate_callee (f := 65) rfl ?_); refine goesL_ (some 7) rfl rfl Try.func65 (by kernel_rfl) rfl #[.agg #[.int .i64 a0_0, .slice A0_1 l0_1.length c0_1]] rfl (by (try simp only [List.map_toArray, List.map_cons, List.map_nil]); first | done | rfl | (simp only [List.length_drop, List.length_take]; rfl)) ?_; (with_reducible refine (spec_GradesValid.calls k a0_0 _ _ l0_1 true _ ?side1 ?side2 A3.out).mono ?_); (case side1 => repeat (first | exact (Kd.C_below HR0_1.out HB.out) | (with_reducible refine Kd.C_alloc ?_ _) | (with_reducible refine Kd.C_drewN ?_ _) | (with_reducible refine Kd.C_drew ?_))); (case side2 => exact HC0_1.out); rintro e w30 ⟨rfl, hb⟩; refine ⟨_, rfl, ?_⟩; have n0_ := Aside0.mk (blk_below (g := gb338) (o := .cells #[.int .i64 a0_0, .slice A0_1 l0_1.length c0_1] 28 (0, 0)) (by (with_reducible repeat (first | refine blk_drewN ?_ _ | refine blk_drew ?_ | refine blk_alloc ?_ _)); exact BK338.out) hb); have n1_ := Aside0.mk (blk_below (g := gb339) (o := .cells #[.int .i64 a1_0, .slice A1_1 l1_1.length c1_1] 28 (0, 0)) (by (with_reducible repeat (first | refine blk_drewN ?_ _ | refine blk_drew ?_ | refine blk_alloc ?_ _)); exact BK339.out) hb); have n2_ := Aside0.mk (blk_below (g := gb340) (o := .cells #[.int .i64 0, .slice none 0 0] 28 (0, 0)) (by (with_reducible repeat (first | refine blk_drewN ?_ _ | refine blk_drew ?_ | refine blk_alloc ?_ _)); exact BK340.out) hb); have n3_ := Aside0.mk (below_step (by repeat (first | (with_reducible first | exact HB.out | apply below_alloc | apply pw_below_drewN | apply below_drew1 | refine below_set ?_ GE338.out | refine below_set ?_ GE339.out | refine below_set ?_ GE340.out) | exact HB.out)) hb); clear BK338; clear BK339; clear BK340; clear HB; have BK338 := n0_; have BK339 := n1_; have BK340 := n2_; have HB := n3_; clear n0_ n1_ n2_ n3_; (try clear hb); (try clear hb2); (try clear hk); (try clear hi); have hnb31 := NB339_340.out; have hnc31 := NB340_339.out; have hcz32_0 : w30.cell? ⟨gb339, 0, none⟩ = some (.int .i64 a1_0) := (blk_cell BK339.out 0).trans rfl; have hcz32_1 : w30.cell? ⟨gb339, 1, none⟩ = some (.slice A1_1 l1_1.length c1_1) := (blk_cell BK339.out 1).trans rfl; have hfz32_0 := blk_frozen BK339.out 0; have hfz32_1 := blk_frozen BK339.out 1) | (go_at_call 65; (with_reducible refine (spec_GradesValid.calls k a1_0 _ _ l1_1 true _ ?side1 ?side2 A5.out).mono ?_); (case side1 => repeat (first | exact (Kd.C_below HR1_1.out HB.out) | (with_reducible refine Kd.C_alloc ?_ _) | (with_reducible refine Kd.C_drewN ?_ _) | (with_reducible refine Kd.C_drew ?_))); (case side2 => exact HC1_1.out); rintro e w33 ⟨rfl, hb⟩; have n0_ := Aside0.mk (blk_below (g := gb338) (o := .cells #[.int .i64 a0_0, .slice A0_1 l0_1.length c0_1] 28 (0, 0)) (by (with_reducible repeat (first | refine blk_drewN ?_ _ | refine blk_drew ?_ | refine blk_alloc ?_ _)); exact BK338.out) hb); have n1_ := Aside0.mk (blk_below (g := gb339) (o := .cells #[.int .i64 a1_0, .slice A1_1 l1_1.length c1_1] 28 (0, 0)) (by (with_reducible repeat (first | refine blk_drewN ?_ _ | refine blk_drew ?_ | refine blk_alloc ?_ _)); exact BK339.out) hb); have n2_ := Aside0.mk (blk_below (g := gb340) (o := .cells #[.int .i64 0, .slice none 0 0] 28 (0, 0)) (by (with_reducible repeat (first | refine blk_drewN ?_ _ | refine blk_drew ?_ | refine blk_alloc ?_ _)); exact BK340.out) hb); have n3_ := Aside0.mk (below_step (by repeat (first | (with_reducible first | exact HB.out | apply below_alloc | apply pw_below_drewN | apply below_drew1 | refine below_set ?_ GE338.out | refine below_set ?_ GE339.out | refine below_set ?_ GE340.out) | exact HB.out)) hb); clear BK338; clear BK339; clear BK340; clear HB; have BK338 := n0_; have BK339 := n1_; have BK340 := n2_; have HB := n3_; clear n0_ n1_ n2_ n3_; (try clear hb); (try clear hb2); (try clear hk); (try clear hi); have hcz34_0 : w33.cell? ⟨gb338, 0, none⟩ = some (.int .i64 a0_0) := (blk_cell BK338.out 0).trans rfl; have hcz34_1 : w33.cell? ⟨gb338, 1, none⟩ = some (.slice A0_1 l0_1.length c0_1) := (blk_cell BK338.out 1).trans rfl; have hfz34_0 := blk_frozen BK338.out 0; have hfz34_1 := blk_frozen BK338.out 1; have hcz35_0 : w33.cell? ⟨gb339, 0, none⟩ = some (.int .i64 a1_0) := (blk_cell BK339.out 0).trans rfl; have hcz35_1 : w33.cell? ⟨gb339, 1, none⟩ = some (.slice A1_1 l1_1.length c1_1) := (blk_cell BK339.out 1).trans rfl; have hfz35_0 := blk_frozen BK339.out 0; have hfz35_1 := blk_frozen BK339.out 1; have hcz36_0 : w33.cell? ⟨gb340, 0, none⟩ = some (.int .i64 0) := (blk_cell BK340.out 0).trans rfl; have hcz36_1 : w33.cell? ⟨gb340, 1, none⟩ = some (.slice none 0 0) := (blk_cell BK340.out 1).trans rfl; have hfz36_0 := blk_frozen BK340.out 0; have hfz36_1 := blk_frozen BK340.out 1))
        refine bodyPost_ret (results_ct rfl _ _ gb340 28 #[.int .i64 0, .slice none 0 0] (0, 0) _ rfl (by (with_reducible repeat (first | refine blk_drewN ?_ _ | refine blk_drew ?_ | refine blk_alloc ?_ _)); refine blk_put (cs := #[.int .i64 0, .slice none 0 0]) ?_ 1 _ rfl; (with_reducible repeat (first | refine blk_drewN ?_ _ | refine blk_drew ?_ | refine blk_alloc ?_ _)); refine blk_put (cs := #[.int .i64 0, .slice none 0 0]) ?_ 0 _ rfl; (with_reducible repeat (first | refine blk_drewN ?_ _ | refine blk_drew ?_ | refine blk_alloc ?_ _)); exact BK340.out) Try.underlying28 rfl (by kernel_rfl)) rfl ?_
        exact ⟨_, by first | rfl | (simp [errW_none, errW_some] <;> rfl) | (simp [*, errW_none, errW_some] <;> rfl), by first | exact Kd.R_nil _ _ _ _ _ | exact Kd.N_nil _ _ _ _ _ | exact Kd.V_nil _ _ _ _ _ | exact Kd.Q_nil _ _ _ _ _ | exact Kd.S_nil _ _ _ _ _, by repeat (first | (with_reducible first | exact HB.out | apply below_alloc | apply pw_below_drewN | apply below_drew1 | refine below_set ?_ GE338.out | refine below_set ?_ GE339.out | refine below_set ?_ GE340.out) | exact HB.out)⟩
    · replace c6 := Bool.eq_false_iff.mpr c6
      subst c6
      have H1 : (some (0, ([] : List Int), false)) = some (r1, r2, r3) := by rw [if_neg (show ¬ (false = true) by decide)] at H; exact H
      clear H
      have H := H1
      clear H1
      simp only [Option.some.injEq, Prod.mk.injEq] at H
      obtain ⟨rfl, rfl, rfl⟩ := H
      go_enter Try.func26, Try.ntmps26
      go_wp2_with (first | ((with_reducible refine gate_dst (N := 2) rfl ?_); refine box_event ?hg (N := 2) ?hd (cs := #[.int .i64 a0_0, .slice A0_1 l0_1.length c0_1]) (t := 28) ?hr ?_; (case hd => rfl); (case hg => rfl); (case hr => first | (go_simp; done) | (go_simp; rfl)); intro gb338 hg w37 hbox hb; have n0_ := Aside0.mk (below_step (by repeat (first | (with_reducible first | exact HB.out | apply below_alloc | apply pw_below_drewN | apply below_drew1) | exact HB.out)) hb); have n1_ := Aside0.mk (hbox); have n2_ := Aside0.mk ((by rw [hg]; exact (below_size (by repeat (first | (with_reducible first | exact HB.out | apply below_alloc | apply pw_below_drewN | apply below_drew1) | exact HB.out))) : w.heap.size ≤ gb338)); have n3_ := Aside0.mk ((by rw [hg]; exact (below_size (by repeat (first | (with_reducible first | exact HB.out | apply below_alloc | apply pw_below_drewN | apply below_drew1) | exact HB.out))) : w.heap.size ≤ gb338)); clear HB; have HB := n0_; have BK338 := n1_; have GW338 := n2_; have GE338 := n3_; clear n0_ n1_ n2_ n3_; clear hb hbox hg) | ((with_reducible refine gate_dst (N := 3) rfl ?_); refine box_event ?hg (N := 3) ?hd (cs := #[.int .i64 a1_0, .slice A1_1 l1_1.length c1_1]) (t := 28) ?hr ?_; (case hd => rfl); (case hg => rfl); (case hr => first | (go_simp; done) | (go_simp; rfl)); intro gb339 hg w38 hbox hb; have n0_ := Aside0.mk (blk_below (g := gb338) (o := .cells #[.int .i64 a0_0, .slice A0_1 l0_1.length c0_1] 28 (0, 0)) (by (with_reducible repeat (first | refine blk_drewN ?_ _ | refine blk_drew ?_ | refine blk_alloc ?_ _)); exact BK338.out) hb); have n1_ := Aside0.mk (below_step (by repeat (first | (with_reducible first | exact HB.out | apply below_alloc | apply pw_below_drewN | apply below_drew1 | refine below_set ?_ GE338.out) | exact HB.out)) hb); have n2_ := Aside0.mk (hbox); have n3_ := Aside0.mk ((by rw [hg]; exact (below_size (by repeat (first | (with_reducible first | exact HB.out | apply below_alloc | apply pw_below_drewN | apply below_drew1 | refine below_set ?_ GE338.out) | exact HB.out))) : w.heap.size ≤ gb339)); have n4_ := Aside0.mk ((by rw [hg]; exact (below_size (by repeat (first | (with_reducible first | exact HB.out | apply below_alloc | apply pw_below_drewN | apply below_drew1 | refine below_set ?_ GE338.out) | exact HB.out))) : w.heap.size ≤ gb339)); have n5_ := Aside0.mk ((by rw [hg]; exact Nat.ne_of_lt (blk_lt (g := gb338) (o := .cells #[.int .i64 a0_0, .slice A0_1 l0_1.length c0_1] 28 (0, 0)) (by (with_reducible repeat (first | refine blk_drewN ?_ _ | refine blk_drew ?_ | refine blk_alloc ?_ _)); exact BK338.out)) : gb338 ≠ gb339)); have n6_ := Aside0.mk ((by rw [hg]; exact Nat.ne_of_gt (blk_lt (g := gb338) (o := .cells #[.int .i64 a0_0, .slice A0_1 l0_1.length c0_1] 28 (0, 0)) (by (with_reducible repeat (first | refine blk_drewN ?_ _ | refine blk_drew ?_ | refine blk_alloc ?_ _)); exact BK338.out)) : gb339 ≠ gb338)); clear BK338; clear HB; have BK338 := n0_; have HB := n1_; have BK339 := n2_; have GW339 := n3_; have GE339 := n4_; have NB338_339 := n5_; have NB339_338 := n6_; clear n0_ n1_ n2_ n3_ n4_ n5_ n6_; clear hb hbox hg) | ((with_reducible refine gate_dst (N := 4) rfl ?_); refine box_event ?hg (N := 4) ?hd (cs := #[.int .i64 0, .slice none 0 0]) (t := 28) ?hr ?_; (case hd => rfl); (case hg => rfl); (case hr => first | (go_simp; done) | (go_simp; rfl)); intro gb340 hg w39 hbox hb; have n0_ := Aside0.mk (blk_below (g := gb338) (o := .cells #[.int .i64 a0_0, .slice A0_1 l0_1.length c0_1] 28 (0, 0)) (by (with_reducible repeat (first | refine blk_drewN ?_ _ | refine blk_drew ?_ | refine blk_alloc ?_ _)); exact BK338.out) hb); have n1_ := Aside0.mk (blk_below (g := gb339) (o := .cells #[.int .i64 a1_0, .slice A1_1 l1_1.length c1_1] 28 (0, 0)) (by (with_reducible repeat (first | refine blk_drewN ?_ _ | refine blk_drew ?_ | refine blk_alloc ?_ _)); exact BK339.out) hb); have n2_ := Aside0.mk (below_step (by repeat (first | (with_reducible first | exact HB.out | apply below_alloc | apply pw_below_drewN | apply below_drew1 | refine below_set ?_ GE338.out | refine below_set ?_ GE339.out) | exact HB.out)) hb); have n3_ := Aside0.mk (hbox); have n4_ := Aside0.mk ((by rw [hg]; exact (below_size (by repeat (first | (with_reducible first | exact HB.out | apply below_alloc | apply pw_below_drewN | apply below_drew1 | refine below_set ?_ GE338.out | refine below_set ?_ GE339.out) | exact HB.out))) : w.heap.size ≤ gb340)); have n5_ := Aside0.mk ((by rw [hg]; exact (below_size (by repeat (first | (with_reducible first | exact HB.out | apply below_alloc | apply pw_below_drewN | apply below_drew1 | refine below_set ?_ GE338.out | refine below_set ?_ GE339.out) | exact HB.out))) : w.heap.size ≤ gb340)); have n6_ := Aside0.mk ((by rw [hg]; exact Nat.ne_of_lt (blk_lt (g := gb338) (o := .cells #[.int .i64 a0_0, .slice A0_1 l0_1.length c0_1] 28 (0, 0)) (by (with_reducible repeat (first | refine blk_drewN ?_ _ | refine blk_drew ?_ | refine blk_alloc ?_ _)); exact BK338.out)) : gb338 ≠ gb340)); have n7_ := Aside0.mk ((by rw [hg]; exact Nat.ne_of_gt (blk_lt (g := gb338) (o := .cells #[.int .i64 a0_0, .slice A0_1 l0_1.length c0_1] 28 (0, 0)) (by (with_reducible repeat (first | refine blk_drewN ?_ _ | refine blk_drew ?_ | refine blk_alloc ?_ _)); exact BK338.out)) : gb340 ≠ gb338)); have n8_ := Aside0.mk ((by rw [hg]; exact Nat.ne_of_lt (blk_lt (g := gb339) (o := .cells #[.int .i64 a1_0, .slice A1_1 l1_1.length c1_1] 28 (0, 0)) (by (with_reducible repeat (first | refine blk_drewN ?_ _ | refine blk_drew ?_ | refine blk_alloc ?_ _)); exact BK339.out)) : gb339 ≠ gb340)); have n9_ := Aside0.mk ((by rw [hg]; exact Nat.ne_of_gt (blk_lt (g := gb339) (o := .cells #[.int .i64 a1_0, .slice A1_1 l1_1.length c1_1] 28 (0, 0)) (by (with_reducible repeat (first | refine blk_drewN ?_ _ | refine blk_drew ?_ | refine blk_alloc ?_ _)); exact BK339.out)) : gb340 ≠ gb339)); clear BK338; clear BK339; clear HB; have BK338 := n0_; have BK339 := n1_; have HB := n2_; have BK340 := n3_; have GW340 := n4_; have GE340 := n5_; have NB338_340 := n6_; have NB340_338 := n7_; have NB339_340 := n8_; have NB340_339 := n9_; clear n0_ n1_ n2_ n3_ n4_ n5_ n6_ n7_ n8_ n9_; clear hb hbox hg; have hnb40 := NB338_339.out; have hnc40 := NB339_338.out; have hnb41 := NB338_340.out; have hnc41 := NB340_338.out; have hcz42_0 : w39.cell? ⟨gb338, 0, none⟩ = some (.int .i64 a0_0) := (blk_cell BK338.out 0).trans rfl; have hcz42_1 : w39.cell? ⟨gb338, 1, none⟩ = some (.slice A0_1 l0_1.length c0_1) := (blk_cell BK338.out 1).trans rfl; have hfz42_0 := blk_frozen BK338.out 0; have hfz42_1 := blk_frozen BK338.out 1) | ((with_reducible refine gate_callee (f := 65) rfl ?_); refine goesL_ (some 7) rfl rfl Try.func65 (by kernel_rfl) rfl #[.agg #[.int .i64 a0_0, .slice A0_1 l0_1.length c0_1]] rfl (by (try simp only [List.map_toArray, List.map_cons, List.map_nil]); first | done | rfl | (simp only [List.length_drop, List.length_take]; rfl)) ?_; (with_reducible refine (spec_GradesValid.calls k a0_0 _ _ l0_1 true _ ?side1 ?side2 A3.out).mono ?_); (case side1 => repeat (first | exact (Kd.C_below HR0_1.out HB.out) | (with_reducible refine Kd.C_alloc ?_ _) | (with_reducible refine Kd.C_drewN ?_ _) | (with_reducible refine Kd.C_drew ?_))); (case side2 => exact HC0_1.out); rintro e w43 ⟨rfl, hb⟩; refine ⟨_, rfl, ?_⟩; have n0_ := Aside0.mk (blk_below (g := gb338) (o := .cells #[.int .i64 a0_0, .slice A0_1 l0_1.length c0_1] 28 (0, 0)) (by (with_reducible repeat (first | refine blk_drewN ?_ _ | refine blk_drew ?_ | refine blk_alloc ?_ _)); exact BK338.out) hb); have n1_ := Aside0.mk (blk_below (g := gb339) (o := .cells #[.int .i64 a1_0, .slice A1_1 l1_1.length c1_1] 28 (0, 0)) (by (with_reducible repeat (first | refine blk_drewN ?_ _ | refine blk_drew ?_ | refine blk_alloc ?_ _)); exact BK339.out) hb); have n2_ := Aside0.mk (blk_below (g := gb340) (o := .cells #[.int .i64 0, .slice none 0 0] 28 (0, 0)) (by (with_reducible repeat (first | refine blk_drewN ?_ _ | refine blk_drew ?_ | refine blk_alloc ?_ _)); exact BK340.out) hb); have n3_ := Aside0.mk (below_step (by repeat (first | (with_reducible first | exact HB.out | apply below_alloc | apply pw_below_drewN | apply below_drew1 | refine below_set ?_ GE338.out | refine below_set ?_ GE339.out | refine below_set ?_ GE340.out) | exact HB.out)) hb); clear BK338; clear BK339; clear BK340; clear HB; have BK338 := n0_; have BK339 := n1_; have BK340 := n2_; have HB := n3_; clear n0_ n1_ n2_ n3_; (try clear hb); (try clear hb2); (try clear hk); (try clear hi); have hnb44 := NB339_340.out; have hnc44 := NB340_339.out; have hcz45_0 : w43.cell? ⟨gb339, 0, none⟩ = some (.int .i64 a1_0) := (blk_cell BK339.out 0).trans rfl; have hcz45_1 : w43.cell? ⟨gb339, 1, none⟩ = some (.slice A1_1 l1_1.length c1_1) := (blk_cell BK339.out 1).trans rfl; have hfz45_0 := blk_frozen BK339.out 0; have hfz45_1 := blk_frozen BK339.out 1) | (go_at_call 65; (with_reducible refine (spec_GradesValid.calls k a1_0 _ _ l1_1 false _ ?side1 ?side2 A5.out).mono ?_); (case side1 => repeat (first | exact (Kd.C_below HR1_1.out HB.out) | (with_reducible refine Kd.C_alloc ?_ _) | (with_reducible refine Kd.C_drewN ?_ _) | (with_reducible refine Kd.C_drew ?_))); (case side2 => exact HC1_1.out); rintro e w46 ⟨rfl, hb⟩; have n0_ := Aside0.mk (blk_below (g := gb338) (o := .cells #[.int .i64 a0_0, .slice A0_1 l0_1.length c0_1] 28 (0, 0)) (by (with_reducible repeat (first | refine blk_drewN ?_ _ | refine blk_drew ?_ | refine blk_alloc ?_ _)); exact BK338.out) hb); have n1_ := Aside0.mk (blk_below (g := gb339) (o := .cells #[.int .i64 a1_0, .slice A1_1 l1_1.length c1_1] 28 (0, 0)) (by (with_reducible repeat (first | refine blk_drewN ?_ _ | refine blk_drew ?_ | refine blk_alloc ?_ _)); exact BK339.out) hb); have n2_ := Aside0.mk (blk_below (g := gb340) (o := .cells #[.int .i64 0, .slice none 0 0] 28 (0, 0)) (by (with_reducible repeat (first | refine blk_drewN ?_ _ | refine blk_drew ?_ | refine blk_alloc ?_ _)); exact BK340.out) hb); have n3_ := Aside0.mk (below_step (by repeat (first | (with_reducible first | exact HB.out | apply below_alloc | apply pw_below_drewN | apply below_drew1 | refine below_set ?_ GE338.out | refine below_set ?_ GE339.out | refine below_set ?_ GE340.out) | exact HB.out)) hb); clear BK338; clear BK339; clear BK340; clear HB; have BK338 := n0_; have BK339 := n1_; have BK340 := n2_; have HB := n3_; clear n0_ n1_ n2_ n3_; (try clear hb); (try clear hb2); (try clear hk); (try clear hi); have hcz47_0 : w46.cell? ⟨gb340, 0, none⟩ = some (.int .i64 0) := (blk_cell BK340.out 0).trans rfl; have hcz47_1 : w46.cell? ⟨gb340, 1, none⟩ = some (.slice none 0 0) := (blk_cell BK340.out 1).trans rfl; have hfz47_0 := blk_frozen BK340.out 0; have hfz47_1 := blk_frozen BK340.out 1))
      refine bodyPost_ret (results_ct rfl _ _ gb340 28 #[.int .i64 0, .slice none 0 0] (0, 0) _ rfl (by (with_reducible repeat (first | refine blk_drewN ?_ _ | refine blk_drew ?_ | refine blk_alloc ?_ _)); refine blk_put (cs := #[.int .i64 0, .slice none 0 0]) ?_ 1 _ rfl; (with_reducible repeat (first | refine blk_drewN ?_ _ | refine blk_drew ?_ | refine blk_alloc ?_ _)); refine blk_put (cs := #[.int .i64 0, .slice none 0 0]) ?_ 0 _ rfl; (with_reducible repeat (first | refine blk_drewN ?_ _ | refine blk_drew ?_ | refine blk_alloc ?_ _)); exact BK340.out) Try.underlying28 rfl (by kernel_rfl)) rfl ?_
      exact ⟨_, by first | rfl | (simp [errW_none, errW_some] <;> rfl) | (simp [*, errW_none, errW_some] <;> rfl), by first | exact Kd.R_nil _ _ _ _ _ | exact Kd.N_nil _ _ _ _ _ | exact Kd.V_nil _ _ _ _ _ | exact Kd.Q_nil _ _ _ _ _ | exact Kd.S_nil _ _ _ _ _, by repeat (first | (with_reducible first | exact HB.out | apply below_alloc | apply pw_below_drewN | apply below_drew1 | refine below_set ?_ GE338.out | refine below_set ?_ GE339.out | refine below_set ?_ GE340.out) | exact HB.out)⟩
  · replace c4 := Bool.eq_false_iff.mpr c4
    subst c4
    have H1 : (some (0, ([] : List Int), false)) = some (r1, r2, r3) := by rw [if_neg (show ¬ (false = true) by decide)] at H; exact H
    clear H
    have H := H1
    clear H1
    simp only [Option.some.injEq, Prod.mk.injEq] at H
    obtain ⟨rfl, rfl, rfl⟩ := H
    go_enter Try.func26, Try.ntmps26
    go_wp2_with (first | ((with_reducible refine gate_dst (N := 2) rfl ?_); refine box_event ?hg (N := 2) ?hd (cs := #[.int .i64 a0_0, .slice A0_1 l0_1.length c0_1]) (t := 28) ?hr ?_; (case hd => rfl); (case hg => rfl); (case hr => first | (go_simp; done) | (go_simp; rfl)); intro gb338 hg w48 hbox hb; have n0_ := Aside0.mk (below_step (by repeat (first | (with_reducible first | exact HB.out | apply below_alloc | apply pw_below_drewN | apply below_drew1) | exact HB.out)) hb); have n1_ := Aside0.mk (hbox); have n2_ := Aside0.mk ((by rw [hg]; exact (below_size (by repeat (first | (with_reducible first | exact HB.out | apply below_alloc | apply pw_below_drewN | apply below_drew1) | exact HB.out))) : w.heap.size ≤ gb338)); have n3_ := Aside0.mk ((by rw [hg]; exact (below_size (by repeat (first | (with_reducible first | exact HB.out | apply below_alloc | apply pw_below_drewN | apply below_drew1) | exact HB.out))) : w.heap.size ≤ gb338)); clear HB; have HB := n0_; have BK338 := n1_; have GW338 := n2_; have GE338 := n3_; clear n0_ n1_ n2_ n3_; clear hb hbox hg) | ((with_reducible refine gate_dst (N := 3) rfl ?_); refine box_event ?hg (N := 3) ?hd (cs := #[.int .i64 a1_0, .slice A1_1 l1_1.length c1_1]) (t := 28) ?hr ?_; (case hd => rfl); (case hg => rfl); (case hr => first | (go_simp; done) | (go_simp; rfl)); intro gb339 hg w49 hbox hb; have n0_ := Aside0.mk (blk_below (g := gb338) (o := .cells #[.int .i64 a0_0, .slice A0_1 l0_1.length c0_1] 28 (0, 0)) (by (with_reducible repeat (first | refine blk_drewN ?_ _ | refine blk_drew ?_ | refine blk_alloc ?_ _)); exact BK338.out) hb); have n1_ := Aside0.mk (below_step (by repeat (first | (with_reducible first | exact HB.out | apply below_alloc | apply pw_below_drewN | apply below_drew1 | refine below_set ?_ GE338.out) | exact HB.out)) hb); have n2_ := Aside0.mk (hbox); have n3_ := Aside0.mk ((by rw [hg]; exact (below_size (by repeat (first | (with_reducible first | exact HB.out | apply below_alloc | apply pw_below_drewN | apply below_drew1 | refine below_set ?_ GE338.out) | exact HB.out))) : w.heap.size ≤ gb339)); have n4_ := Aside0.mk ((by rw [hg]; exact (below_size (by repeat (first | (with_reducible first | exact HB.out | apply below_alloc | apply pw_below_drewN | apply below_drew1 | refine below_set ?_ GE338.out) | exact HB.out))) : w.heap.size ≤ gb339)); have n5_ := Aside0.mk ((by rw [hg]; exact Nat.ne_of_lt (blk_lt (g := gb338) (o := .cells #[.int .i64 a0_0, .slice A0_1 l0_1.length c0_1] 28 (0, 0)) (by (with_reducible repeat (first | refine blk_drewN ?_ _ | refine blk_drew ?_ | refine blk_alloc ?_ _)); exact BK338.out)) : gb338 ≠ gb339)); have n6_ := Aside0.mk ((by rw [hg]; exact Nat.ne_of_gt (blk_lt (g := gb338) (o := .cells #[.int .i64 a0_0, .slice A0_1 l0_1.length c0_1] 28 (0, 0)) (by (with_reducible repeat (first | refine blk_drewN ?_ _ | refine blk_drew ?_ | refine blk_alloc ?_ _)); exact BK338.out)) : gb339 ≠ gb338)); clear BK338; clear HB; have BK338 := n0_; have HB := n1_; have BK339 := n2_; have GW339 := n3_; have GE339 := n4_; have NB338_339 := n5_; have NB339_338 := n6_; clear n0_ n1_ n2_ n3_ n4_ n5_ n6_; clear hb hbox hg) | ((with_reducible refine gate_dst (N := 4) rfl ?_); refine box_event ?hg (N := 4) ?hd (cs := #[.int .i64 0, .slice none 0 0]) (t := 28) ?hr ?_; (case hd => rfl); (case hg => rfl); (case hr => first | (go_simp; done) | (go_simp; rfl)); intro gb340 hg w50 hbox hb; have n0_ := Aside0.mk (blk_below (g := gb338) (o := .cells #[.int .i64 a0_0, .slice A0_1 l0_1.length c0_1] 28 (0, 0)) (by (with_reducible repeat (first | refine blk_drewN ?_ _ | refine blk_drew ?_ | refine blk_alloc ?_ _)); exact BK338.out) hb); have n1_ := Aside0.mk (blk_below (g := gb339) (o := .cells #[.int .i64 a1_0, .slice A1_1 l1_1.length c1_1] 28 (0, 0)) (by (with_reducible repeat (first | refine blk_drewN ?_ _ | refine blk_drew ?_ | refine blk_alloc ?_ _)); exact BK339.out) hb); have n2_ := Aside0.mk (below_step (by repeat (first | (with_reducible first | exact HB.out | apply below_alloc | apply pw_below_drewN | apply below_drew1 | refine below_set ?_ GE338.out | refine below_set ?_ GE339.out) | exact HB.out)) hb); have n3_ := Aside0.mk (hbox); have n4_ := Aside0.mk ((by rw [hg]; exact (below_size (by repeat (first | (with_reducible first | exact HB.out | apply below_alloc | apply pw_below_drewN | apply below_drew1 | refine below_set ?_ GE338.out | refine below_set ?_ GE339.out) | exact HB.out))) : w.heap.size ≤ gb340)); have n5_ := Aside0.mk ((by rw [hg]; exact (below_size (by repeat (first | (with_reducible first | exact HB.out | apply below_alloc | apply pw_below_drewN | apply below_drew1 | refine below_set ?_ GE338.out | refine below_set ?_ GE339.out) | exact HB.out))) : w.heap.size ≤ gb340)); have n6_ := Aside0.mk ((by rw [hg]; exact Nat.ne_of_lt (blk_lt (g := gb338) (o := .cells #[.int .i64 a0_0, .slice A0_1 l0_1.length c0_1] 28 (0, 0)) (by (with_reducible repeat (first | refine blk_drewN ?_ _ | refine blk_drew ?_ | refine blk_alloc ?_ _)); exact BK338.out)) : gb338 ≠ gb340)); have n7_ := Aside0.mk ((by rw [hg]; exact Nat.ne_of_gt (blk_lt (g := gb338) (o := .cells #[.int .i64 a0_0, .slice A0_1 l0_1.length c0_1] 28 (0, 0)) (by (with_reducible repeat (first | refine blk_drewN ?_ _ | refine blk_drew ?_ | refine blk_alloc ?_ _)); exact BK338.out)) : gb340 ≠ gb338)); have n8_ := Aside0.mk ((by rw [hg]; exact Nat.ne_of_lt (blk_lt (g := gb339) (o := .cells #[.int .i64 a1_0, .slice A1_1 l1_1.length c1_1] 28 (0, 0)) (by (with_reducible repeat (first | refine blk_drewN ?_ _ | refine blk_drew ?_ | refine blk_alloc ?_ _)); exact BK339.out)) : gb339 ≠ gb340)); have n9_ := Aside0.mk ((by rw [hg]; exact Nat.ne_of_gt (blk_lt (g := gb339) (o := .cells #[.int .i64 a1_0, .slice A1_1 l1_1.length c1_1] 28 (0, 0)) (by (with_reducible repeat (first | refine blk_drewN ?_ _ | refine blk_drew ?_ | refine blk_alloc ?_ _)); exact BK339.out)) : gb340 ≠ gb339)); clear BK338; clear BK339; clear HB; have BK338 := n0_; have BK339 := n1_; have HB := n2_; have BK340 := n3_; have GW340 := n4_; have GE340 := n5_; have NB338_340 := n6_; have NB340_338 := n7_; have NB339_340 := n8_; have NB340_339 := n9_; clear n0_ n1_ n2_ n3_ n4_ n5_ n6_ n7_ n8_ n9_; clear hb hbox hg; have hnb51 := NB338_339.out; have hnc51 := NB339_338.out; have hnb52 := NB338_340.out; have hnc52 := NB340_338.out; have hcz53_0 : w50.cell? ⟨gb338, 0, none⟩ = some (.int .i64 a0_0) := (blk_cell BK338.out 0).trans rfl; have hcz53_1 : w50.cell? ⟨gb338, 1, none⟩ = some (.slice A0_1 l0_1.length c0_1) := (blk_cell BK338.out 1).trans rfl; have hfz53_0 := blk_frozen BK338.out 0; have hfz53_1 := blk_frozen BK338.out 1) | ((with_reducible refine gate_callee (f := 65) rfl ?_); refine goesL_ (some 7) rfl rfl Try.func65 (by kernel_rfl) rfl #[.agg #[.int .i64 a0_0, .slice A0_1 l0_1.length c0_1]] rfl (by (try simp only [List.map_toArray, List.map_cons, List.map_nil]); first | done | rfl | (simp only [List.length_drop, List.length_take]; rfl)) ?_; (with_reducible refine (spec_GradesValid.calls k a0_0 _ _ l0_1 false _ ?side1 ?side2 A3.out).mono ?_); (case side1 => repeat (first | exact (Kd.C_below HR0_1.out HB.out) | (with_reducible refine Kd.C_alloc ?_ _) | (with_reducible refine Kd.C_drewN ?_ _) | (with_reducible refine Kd.C_drew ?_))); (case side2 => exact HC0_1.out); rintro e w54 ⟨rfl, hb⟩; refine ⟨_, rfl, ?_⟩; have n0_ := Aside0.mk (blk_below (g := gb338) (o := .cells #[.int .i64 a0_0, .slice A0_1 l0_1.length c0_1] 28 (0, 0)) (by (with_reducible repeat (first | refine blk_drewN ?_ _ | refine blk_drew ?_ | refine blk_alloc ?_ _)); exact BK338.out) hb); have n1_ := Aside0.mk (blk_below (g := gb339) (o := .cells #[.int .i64 a1_0, .slice A1_1 l1_1.length c1_1] 28 (0, 0)) (by (with_reducible repeat (first | refine blk_drewN ?_ _ | refine blk_drew ?_ | refine blk_alloc ?_ _)); exact BK339.out) hb); have n2_ := Aside0.mk (blk_below (g := gb340) (o := .cells #[.int .i64 0, .slice none 0 0] 28 (0, 0)) (by (with_reducible repeat (first | refine blk_drewN ?_ _ | refine blk_drew ?_ | refine blk_alloc ?_ _)); exact BK340.out) hb); have n3_ := Aside0.mk (below_step (by repeat (first | (with_reducible first | exact HB.out | apply below_alloc | apply pw_below_drewN | apply below_drew1 | refine below_set ?_ GE338.out | refine below_set ?_ GE339.out | refine below_set ?_ GE340.out) | exact HB.out)) hb); clear BK338; clear BK339; clear BK340; clear HB; have BK338 := n0_; have BK339 := n1_; have BK340 := n2_; have HB := n3_; clear n0_ n1_ n2_ n3_; (try clear hb); (try clear hb2); (try clear hk); (try clear hi); have hnb55 := NB340_339.out; have hnc55 := NB339_340.out; have hcz56_0 : w54.cell? ⟨gb340, 0, none⟩ = some (.int .i64 0) := (blk_cell BK340.out 0).trans rfl; have hcz56_1 : w54.cell? ⟨gb340, 1, none⟩ = some (.slice none 0 0) := (blk_cell BK340.out 1).trans rfl; have hfz56_0 := blk_frozen BK340.out 0; have hfz56_1 := blk_frozen BK340.out 1))
    refine bodyPost_ret (results_ct rfl _ _ gb340 28 #[.int .i64 0, .slice none 0 0] (0, 0) _ rfl (by (with_reducible repeat (first | refine blk_drewN ?_ _ | refine blk_drew ?_ | refine blk_alloc ?_ _)); refine blk_put (cs := #[.int .i64 0, .slice none 0 0]) ?_ 1 _ rfl; (with_reducible repeat (first | refine blk_drewN ?_ _ | refine blk_drew ?_ | refine blk_alloc ?_ _)); refine blk_put (cs := #[.int .i64 0, .slice none 0 0]) ?_ 0 _ rfl; (with_reducible repeat (first | refine blk_drewN ?_ _ | refine blk_drew ?_ | refine blk_alloc ?_ _)); exact BK340.out) Try.underlying28 rfl (by kernel_rfl)) rfl ?_
    exact ⟨_, by first | rfl | (simp [errW_none, errW_some] <;> rfl) | (simp [*, errW_none, errW_some] <;> rfl), by first | exact Kd.R_nil _ _ _ _ _ | exact Kd.N_nil _ _ _ _ _ | exact Kd.V_nil _ _ _ _ _ | exact Kd.Q_nil _ _ _ _ _ | exact Kd.S_nil _ _ _ _ _, by repeat (first | (with_reducible first | exact HB.out | apply below_alloc | apply pw_below_drewN | apply below_drew1 | refine below_set ?_ GE338.out | refine below_set ?_ GE339.out | refine below_set ?_ GE340.out) | exact HB.out)⟩
end Go.Proofs.Ytengegdaiphfeaa.X
end
section
namespace Go.Proofs.Ytengegdaiphfeaa.Y
open Go.RowKit Go.Proofs.Ytengegdaiphfeaa.X Go.Proofs.YtengegdaiphfeaaW.PrintWords Go.Proofs.YtengegdaiphfeaaW.PrintLast Go.Proofs.YtengegdaiphfeaaW.PrintMore
set_option linter.unusedVariables false
set_option linter.unusedSimpArgs false
def okCost (x : Int) : Bool := decide (0 ≤ x ∧ x ≤ 1000000)
def MV (n : Int) (l : List Int) : Prop := 1 ≤ n ∧ n ≤ 4 ∧ (l.length : Int) = n * n ∧ ∀ x ∈ l, 0 ≤ x ∧ x ≤ 1000000
def GV (n : Int) (l : List Int) : Prop := MV n l ∧ ∀ x ∈ l, x ≤ 3
instance (n : Int) (l : List Int) : Decidable (MV n l) := by unfold MV; infer_instance
instance (n : Int) (l : List Int) : Decidable (GV n l) := by unfold GV; infer_instance
theorem icost (a : Int) : impl_CostValid.f a = some (okCost a) := by
  unfold impl_CostValid.f okCost
  by_cases h : a ≥ 0
  · rw [if_pos h]; by_cases h2 : a ≤ 1000000 <;> simp [h2] <;> omega
  · rw [if_neg h]; simp; omega
theorem scost (a : Int) : spec_CostValid.f a = some (okCost a) := by
  unfold spec_CostValid.f spec_l1In.f okCost
  by_cases h : a ≥ 0
  · rw [if_pos h]; by_cases h2 : a ≤ 1000000 <;> simp [h2] <;> omega
  · rw [if_neg h]; simp; omega
theorem sIn (a lo hi : Int) : spec_l1In.f a lo hi = some (decide (lo ≤ a ∧ a ≤ hi)) := by
  unfold spec_l1In.f
  by_cases h : a ≥ lo
  · rw [if_pos h]; by_cases h2 : a ≤ hi <;> simp [h2] <;> omega
  · rw [if_neg h]; simp; omega
theorem index_ev (q : Int → Bool) (p : Int → Option Bool) (hp : ∀ x, p x = some (q x)) (l : List Int) (h : l.length ≤ maxLen) :
    Ev (fun k => slices_ContainsFunc_int_int.f p k l) (l.any q) := by
  rw [maxLen_eq] at h
  have go : ∀ (t pre : List Int), l = pre ++ t → ∃ z : Int, Ev (fun k => slices_IndexFunc_int_int.l0 p k l (l.length : Int) (pre.length : Int)) z ∧ decide (z ≥ 0) = t.any q := by
    intro t
    induction t with
    | nil =>
      intro pre hl
      refine ⟨-1, ?_, rfl⟩
      refine Ev.step (f := fun _ => some (-1)) (fun k => ?_) (Ev.now _)
      simp only [slices_IndexFunc_int_int.l0]
      rw [if_neg (by rw [hl]; simp)]
    | cons x t ih =>
      intro pre hl
      have hlen : l.length = pre.length + (t.length + 1) := by rw [hl]; simp
      have hx : rd l (pre.length : Int) = x := by rw [hl, rd_mid]
      cases hq : q x with
      | true =>
        refine ⟨pre.length, ?_, by simp [hq]⟩
        refine Ev.step (f := fun _ => some (pre.length : Int)) (fun k => ?_) (Ev.now _)
        simp only [slices_IndexFunc_int_int.l0]
        rw [if_pos (by omega), if_pos (by omega), if_pos (by omega), hx, hp, hq, Option.bind_some, if_pos rfl]
      | false =>
        obtain ⟨z, hz, hd⟩ := ih (pre ++ [x]) (by simp [hl])
        refine ⟨z, ?_, by simp [hq, hd]⟩
        refine Ev.step (fun k => ?_) hz
        simp only [slices_IndexFunc_int_int.l0]
        rw [if_pos (by omega), if_pos (by omega), if_pos (by omega), hx, hp, hq, Option.bind_some, if_neg (by simp), w64 (by omega) (by omega), snoc_len]
  obtain ⟨z, hz, hd⟩ := go l [] rfl
  refine Ev.congr (f := ?f1) (fun k => ?h1) ?k1
  case h1 => unfold slices_ContainsFunc_int_int.f slices_IndexFunc_int_int.f; exact rfl
  exact Ev.bind hz (Ev.congr (f := fun _ => some (l.any q)) (fun k => by rw [hd]) (Ev.now _))
theorem iMV (n : Int) (l : List Int) (hl : l.length ≤ maxLen) : Ev (fun k => impl_MatrixValid.f k n l) (decide (MV n l)) := by
  have no : ∀ f : Nat → Option Bool, (∀ k, f k = some false) → ¬ MV n l → Ev f (decide (MV n l)) := fun f h h2 => (ev_some h).is (by rw [decide_eq_false h2])
  by_cases h1 : n < 1
  · exact no _ (fun k => by unfold impl_MatrixValid.f; rw [if_pos h1]) (fun h => by unfold MV at h; omega)
  by_cases h2 : n > 4
  · exact no _ (fun k => by unfold impl_MatrixValid.f; rw [if_neg h1, if_pos h2]) (fun h => by unfold MV at h; omega)
  have hnn : 0 ≤ n * n ∧ n * n ≤ 16 := by
    have : n = 1 ∨ n = 2 ∨ n = 3 ∨ n = 4 := by omega
    rcases this with rfl | rfl | rfl | rfl <;> omega
  by_cases h3 : (l.length : Int) = wrap64 (n * n)
  · rw [w64 (by omega) (by omega)] at h3
    refine Ev.congr (f := ?f2) (fun k => ?h2) ?k2
    case h2 => unfold impl_MatrixValid.f; rw [if_neg h1, if_neg h2, w64 (x := n * n) (by omega) (by omega), if_pos h3] <;> exact rfl
    have hq : ∀ x, impl_MatrixValid_1.f x = some (!(okCost x)) := fun x => by unfold impl_MatrixValid_1.f; rw [icost]; rfl
    refine Ev.bind (index_ev (fun x => !(okCost x)) _ hq l hl) ?_
    refine (ev_some (fun k => rfl)).is ?_
    rw [Bool.eq_iff_iff]
    simp only [Bool.not_eq_true', List.any_eq_false, Bool.not_eq_true', Bool.not_eq_false, decide_eq_true_eq]
    constructor
    · intro h; exact ⟨by omega, by omega, h3, fun x hx => by simpa [okCost] using h x hx⟩
    · intro h x hx; simpa [okCost] using h.2.2.2 x hx
  · refine no _ (fun k => by unfold impl_MatrixValid.f; rw [if_neg h1, if_neg h2, if_neg h3]) (fun h => ?_)
    rw [w64 (by omega) (by omega)] at h3
    exact h3 h.2.2.1
theorem iGV (n : Int) (l : List Int) (hl : l.length ≤ maxLen) : Ev (fun k => impl_GradesValid.f k n l) (decide (GV n l)) := by
  refine Ev.congr (f := ?f3) (fun k => ?h3) ?k3
  case h3 => unfold impl_GradesValid.f; exact rfl
  refine Ev.bind (iMV n l hl) ?_
  by_cases h : MV n l
  · refine Ev.congr (f := ?f4) (fun k => ?h4) ?k4
    case h4 => rw [decide_eq_true h, if_pos rfl] <;> exact rfl
    refine Ev.bind (index_ev (fun x => decide (x > 3)) _ (fun x => rfl) l hl) ?_
    refine (ev_some (fun k => rfl)).is ?_
    rw [Bool.eq_iff_iff]
    simp only [Bool.not_eq_true', List.any_eq_false, decide_eq_true_eq]
    exact ⟨fun g => ⟨h, fun x hx => by have := g x hx; omega⟩, fun g x hx => by have := g.2 x hx; omega⟩
  · refine (ev_some (fun k => ?_)).is (by rw [decide_eq_false (fun g : GV n l => h g.1)])
    rw [decide_eq_false h]; rfl
theorem sAll_ev (l : List Int) (h : l.length ≤ maxLen) : Ev (fun k => spec_l1All.f k l) (l.all okCost) := by
  rw [maxLen_eq] at h
  have go : ∀ (t pre : List Int), l = pre ++ t → Ev (fun k => spec_l1All.l0 k l (l.length : Int) (pre.length : Int)) (t.all okCost) := by
    intro t
    induction t with
    | nil =>
      intro pre hl
      refine Ev.step (f := fun _ => some true) (fun k => ?_) (Ev.now _)
      simp only [spec_l1All.l0]; rw [if_neg (by rw [hl]; simp)]
    | cons x t ih =>
      intro pre hl
      have hlen : l.length = pre.length + (t.length + 1) := by rw [hl]; simp
      have hx : rd l (pre.length : Int) = x := by rw [hl, rd_mid]
      cases hq : okCost x with
      | true =>
        refine Ev.step (fun k => ?_) ((ih (pre ++ [x]) (by simp [hl])).is (by simp [hq]))
        simp only [spec_l1All.l0]
        rw [if_pos (by omega), if_pos (by omega), if_pos (by omega), hx, scost, hq, Option.bind_some, if_pos rfl, w64 (by omega) (by omega), snoc_len]
      | false =>
        refine Ev.step (f := fun _ => some false) (fun k => ?_) ((Ev.now _).is (by simp [hq]))
        simp only [spec_l1All.l0]
        rw [if_pos (by omega), if_pos (by omega), if_pos (by omega), hx, scost, hq, Option.bind_some, if_neg (by simp)]
  exact go l [] rfl
theorem sMV (n : Int) (l : List Int) (hl : l.length ≤ maxLen) : Ev (fun k => spec_MatrixValid.f k n l) (decide (MV n l)) := by
  have no : ∀ f : Nat → Option Bool, (∀ k, f k = some false) → ¬ MV n l → Ev f (decide (MV n l)) := fun f h h2 => (ev_some h).is (by rw [decide_eq_false h2])
  by_cases h1 : 1 ≤ n ∧ n ≤ 4
  · have hnn : 0 ≤ n * n ∧ n * n ≤ 16 := by
      have : n = 1 ∨ n = 2 ∨ n = 3 ∨ n = 4 := by omega
      rcases this with rfl | rfl | rfl | rfl <;> omega
    by_cases h3 : (l.length : Int) = n * n
    · refine Ev.congr (f := ?f5) (fun k => ?h5) ?k5
      case h5 => unfold spec_MatrixValid.f; rw [sIn, decide_eq_true h1, Option.bind_some, if_pos rfl, w64 (x := n * n) (by omega) (by omega), if_pos h3] <;> exact rfl
      refine Ev.bind (sAll_ev l hl) ((ev_some (fun k => rfl)).is ?_)
      rw [Bool.eq_iff_iff]
      simp only [List.all_eq_true, decide_eq_true_eq]
      exact ⟨fun g => ⟨h1.1, h1.2, h3, fun x hx => by simpa [okCost] using g x hx⟩, fun g x hx => by simpa [okCost] using g.2.2.2 x hx⟩
    · exact no _ (fun k => by unfold spec_MatrixValid.f; rw [sIn, decide_eq_true h1, Option.bind_some, if_pos rfl, w64 (x := n * n) (by omega) (by omega), if_neg h3]) (fun h => h3 h.2.2.1)
  · exact no _ (fun k => by unfold spec_MatrixValid.f; rw [sIn, decide_eq_false h1]; rfl) (fun h => h1 ⟨h.1, h.2.1⟩)
theorem sGV (n : Int) (l : List Int) (hl : l.length ≤ maxLen) : Ev (fun k => spec_GradesValid.f k n l) (decide (GV n l)) := by
  have hm := hl
  rw [maxLen_eq] at hm
  have go : ∀ (t pre : List Int), l = pre ++ t → Ev (fun k => spec_GradesValid.l0 k l (l.length : Int) (pre.length : Int) n l) (decide ((∀ x ∈ t, 0 ≤ x ∧ x ≤ 3) ∧ MV n l)) := by
    intro t
    induction t with
    | nil =>
      intro pre hp
      refine Ev.step (f := ?f6) (fun k => ?h6) ?k6
      case h6 => simp only [spec_GradesValid.l0]; rw [if_neg (by rw [hp]; simp)] <;> exact rfl
      exact Ev.bind (sMV n l hl) ((ev_some (fun k => rfl)).is (by simp))
    | cons x t ih =>
      intro pre hp
      have hlen : l.length = pre.length + (t.length + 1) := by rw [hp]; simp
      have hx : rd l (pre.length : Int) = x := by rw [hp, rd_mid]
      by_cases hq : 0 ≤ x ∧ x ≤ 3
      · refine Ev.step (fun k => ?_) ((ih (pre ++ [x]) (by simp [hp])).is ?_)
        · simp only [spec_GradesValid.l0]
          rw [if_pos (by omega), if_pos (by omega), if_pos (by omega), hx, sIn, decide_eq_true hq, Option.bind_some, if_pos rfl, w64 (by omega) (by omega), snoc_len]
        · simp [hq.1, hq.2]
      · refine Ev.step (f := fun _ => some false) (fun k => ?_) ((Ev.now _).is ?_)
        · simp only [spec_GradesValid.l0]
          rw [if_pos (by omega), if_pos (by omega), if_pos (by omega), hx, sIn, decide_eq_false hq, Option.bind_some, if_neg (by simp)]
        · symm; rw [decide_eq_false_iff_not]; intro h; exact hq (h.1 x (by simp))
  refine (go l [] rfl).is ?_
  rw [Bool.eq_iff_iff]
  simp only [decide_eq_true_eq]
  exact ⟨fun h => ⟨h.2, fun x hx => (h.1 x hx).2⟩, fun h => ⟨fun x hx => ⟨(h.1.2.2.2 x hx).1, h.2 x hx⟩, h.1⟩⟩
end Go.Proofs.Ytengegdaiphfeaa.Y
end
section
namespace Go.Proofs.Ytengegdaiphfeaa.Y
open Go.RowKit Go.Proofs.Ytengegdaiphfeaa.X Go.Proofs.YtengegdaiphfeaaW.PrintWords Go.Proofs.YtengegdaiphfeaaW.PrintLast Go.Proofs.YtengegdaiphfeaaW.PrintMore
set_option linter.unusedVariables false
set_option linter.unusedSimpArgs false
theorem div_mod_at (n i k : Nat) (hk : k < n) : (i * n + k) / n = i ∧ (i * n + k) % n = k := by
  have hn : 0 < n := by omega
  constructor
  · rw [Nat.mul_comm, Nat.mul_add_div hn, Nat.div_eq_of_lt hk, Nat.add_zero]
  · rw [Nat.mul_comm, Nat.mul_add_mod, Nat.mod_eq_of_lt hk]
theorem cell_lt (n i k : Nat) (hi : i < n) (hk : k < n) : i * n + k < n * n := by
  have : (i + 1) * n ≤ n * n := Nat.mul_le_mul_right n hi
  rw [Nat.succ_mul] at this
  omega
theorem sq_le (n : Nat) (h : n ≤ 4) : n * n ≤ 16 := by
  have := Nat.mul_le_mul h h
  omega
theorem row_le (n i : Nat) (hn : n ≤ 4) (hi : i ≤ n) : i * n ≤ 16 := by
  have := Nat.mul_le_mul (Nat.le_trans hi hn) hn
  omega
def cutF (n : Nat) (g : Nat → Nat → Int) : Int → Int → Option Int := fun i k => if 0 ≤ i ∧ i < n ∧ 0 ≤ k ∧ k < n then some (g i.toNat k.toNat) else none
theorem cutF_at (n : Nat) (g : Nat → Nat → Int) (i k : Nat) (hi : i < n) (hk : k < n) : cutF n g (i : Int) (k : Int) = some (g i k) := by
  unfold cutF; rw [if_pos (by omega)]; simp
def sqL (n : Nat) (g : Nat → Nat → Int) : List Int := tab (n * n) (fun m => g (m / n) (m % n))
theorem sqL_get (n : Nat) (g : Nat → Nat → Int) (i k : Nat) (hi : i < n) (hk : k < n) : (sqL n g).getD (i * n + k) 0 = g i k := by
  unfold sqL
  rw [tab_get _ _ _ (cell_lt n i k hi hk)]
  obtain ⟨h1, h2⟩ := div_mod_at n i k hk
  rw [h1, h2]
theorem sqL_congr (n : Nat) (g h : Nat → Nat → Int) (e : ∀ i k, i < n → k < n → g i k = h i k) : sqL n g = sqL n h := by
  refine tab_congr _ _ _ (fun j hj => e _ _ (Nat.div_lt_of_lt_mul hj) (Nat.mod_lt _ ?_))
  rcases n with _ | n
  · simp at hj
  · omega
theorem eq_sqL (n : Nat) (l : List Int) (h : l.length = n * n) : l = sqL n (fun i k => l.getD (i * n + k) 0) := by
  refine (eq_tab l _ h).trans (tab_congr _ _ _ (fun j _ => ?_))
  show l.getD j 0 = l.getD (j / n * n + j % n) 0
  rw [Nat.mul_comm, Nat.div_add_mod]
theorem filled_cut (n : Nat) (hn : n ≤ 4) (g : Nat → Nat → Int) : Ev (fun j => impl_filled.f (cutF n g) j (n : Int)) ((n : Int), sqL n g) := by
  have inner : ∀ (i : Nat) (r : Int × List Int), i < n → Ev (fun j => impl_filled.l0 (cutF n g) j n n ((i + 1 : Nat) : Int) n (tab ((i + 1) * n) (fun m => g (m / n) (m % n)))) r →
      Ev (fun j => impl_filled.l0 (cutF n g) j n n (i : Int) n (tab (i * n) (fun m => g (m / n) (m % n)))) r := by
    intro i r hi h
    refine Ev.step (f := fun j => impl_filled.l1 (cutF n g) j n i n i n ((0 : Nat) : Int) n (tab (i * n + 0) (fun m => g (m / n) (m % n)))) (fun k => ?_) ?_
    · simp only [impl_filled.l0]; rw [if_pos (by omega)]; rfl
    refine up_loop n (fun k j => impl_filled.l1 (cutF n g) j n i n i n (k : Int) n (tab (i * n + k) (fun m => g (m / n) (m % n)))) r (fun k hk hs => ?_) ?_
    · refine Ev.step (fun j => ?_) hs
      simp only [impl_filled.l1]
      have hr := row_le n i hn (by omega)
      obtain ⟨h1, h2⟩ := div_mod_at n i k hk
      rw [if_pos (by omega), cutF_at n g i k hi hk, Option.bind_some, tab_length, if_pos (by omega), w64 (by omega) (by omega)]
      have e : tab (i * n + k) (fun m => g (m / n) (m % n)) ++ [g i k] = tab (i * n + (k + 1)) (fun m => g (m / n) (m % n)) := by
        rw [← Nat.add_assoc, ← tab_snoc, h1, h2]
      rw [e]; rfl
    · refine Ev.step (fun j => ?_) h
      simp only [impl_filled.l1]
      rw [if_neg (by omega), w64 (by omega) (by omega), Nat.succ_mul]; rfl
  refine Ev.congr (f := fun j => impl_filled.l0 (cutF n g) j n n ((0 : Nat) : Int) n (tab (0 * n) (fun m => g (m / n) (m % n)))) (fun k => ?_) ?_
  · unfold impl_filled.f; simp [tab]
  refine up_loop n (fun i j => impl_filled.l0 (cutF n g) j n n (i : Int) n (tab (i * n) (fun m => g (m / n) (m % n)))) _ (fun i hi hs => inner i _ hi hs) ?_
  refine Ev.step (f := fun _ => some ((n : Int), sqL n g)) (fun j => ?_) (Ev.now _)
  simp only [impl_filled.l0]
  rw [if_neg (by omega)]; rfl
theorem filled_ev (n : Nat) (hn : n ≤ 4) (g : Nat → Nat → Int) (p : Nat → Int → Int → Option Int) (h : ∀ i, i < n → ∀ k, k < n → Ev (fun K => p K (i : Int) (k : Int)) (g i k)) :
    Ev (fun K => impl_filled.f (p K) K (n : Int)) ((n : Int), sqL n g) := by
  have h2 : ∀ i, i < n → ∃ K0, ∀ K, K0 ≤ K → ∀ k, k < n → p K (i : Int) (k : Int) = some (g i k) := fun i hi => ev_all n (fun k hk => h i hi k hk)
  have h3 : ∃ K0, ∀ K, K0 ≤ K → ∀ i, i < n → ∀ k, k < n → p K (i : Int) (k : Int) = some (g i k) := by
    have : ∀ m, m ≤ n → ∃ K0, ∀ K, K0 ≤ K → ∀ i, i < m → ∀ k, k < n → p K (i : Int) (k : Int) = some (g i k) := by
      intro m
      induction m with
      | zero => intro _; exact ⟨0, fun _ _ i hi => by omega⟩
      | succ m ih =>
        intro hm
        obtain ⟨a, ha⟩ := ih (by omega)
        obtain ⟨b, hb⟩ := h2 m (by omega)
        refine ⟨max a b, fun K hK i hi k hk => ?_⟩
        by_cases e : i = m
        · subst e; exact hb K (by omega) k hk
        · exact ha K (by omega) i (by omega) k hk
    exact this n (Nat.le_refl _)
  obtain ⟨K0, hK0⟩ := h3
  refine ev_up (f := fun j => impl_filled.f (cutF n g) j (n : Int)) (p := fun K j => impl_filled.f (p K) j (n : Int)) (filled_cut n hn g) ⟨K0, fun K hK j => ?_⟩ (fun K j => impl_filled.mono (p K) _ j)
  refine impl_filled.monoP (fun y0 y1 r hr => ?_) _ j
  unfold cutF at hr
  by_cases hc : 0 ≤ y0 ∧ y0 < n ∧ 0 ≤ y1 ∧ y1 < n
  · rw [if_pos hc] at hr
    have e0 : ((y0.toNat : Nat) : Int) = y0 := by omega
    have e1 : ((y1.toNat : Nat) : Int) = y1 := by omega
    have := hK0 K hK y0.toNat (by omega) y1.toNat (by omega)
    rw [e0, e1] at this
    rw [this]; exact hr
  · rw [if_neg hc] at hr; cases hr
theorem at_eq (n : Nat) (hn : n ≤ 4) (l : List Int) (hl : l.length = n * n) (i k : Nat) (hi : i < n) (hk : k < n) : impl_Matrix_at.f (n : Int) l (i : Int) (k : Int) = some (l.getD (i * n + k) 0) := by
  have hc := cell_lt n i k hi hk
  have hr := row_le n i hn (by omega)
  have e : wrap64 (wrap64 ((i : Int) * (n : Int)) + k) = ((i * n + k : Nat) : Int) := by
    have : (i : Int) * (n : Int) = ((i * n : Nat) : Int) := by simp
    rw [this, w64 (x := ((i * n : Nat) : Int)) (by omega) (by omega), w64 (by omega) (by omega)]; simp
  unfold impl_Matrix_at.f
  rw [e, if_pos (by omega), if_pos (by omega), rd_nat]
def mulE (n : Nat) (a b : List Int) (i k : Nat) : Int := (List.range n).foldl (fun acc l => mn acc (mx (a.getD (i * n + l) 0) (b.getD (l * n + k) 0))) 3
def mulL (n : Nat) (a b : List Int) : List Int := sqL n (mulE n a b)
theorem mulL_length (n : Nat) (a b : List Int) : (mulL n a b).length = n * n := by simp [mulL, sqL, tab_length]
theorem iMulCell (n : Nat) (hn : n ≤ 4) (a b : List Int) (ha : a.length = n * n) (hb : b.length = n * n) (i k : Nat) (hi : i < n) (hk : k < n) :
    Ev (fun K => impl_MulGrades_1.f K (i : Int) (k : Int) (n : Int) a (n : Int) b) (mulE n a b i k) := by
  refine up_loop n (fun l K => impl_MulGrades_1.l0 K i k ((List.range l).foldl (fun acc l => mn acc (mx (a.getD (i * n + l) 0) (b.getD (l * n + k) 0))) 3) n (l : Int) n a n b) _ (fun l hl hs => ?_) ?_
  · refine Ev.step (fun j => ?_) hs
    simp only [impl_MulGrades_1.l0]
    rw [if_pos (by omega), at_eq n hn a ha i l hi hl, Option.bind_some, at_eq n hn b hb l k hl hk, Option.bind_some, w64 (by omega) (by omega), fold_snoc]; rfl
  · refine Ev.step (f := fun _ => some (mulE n a b i k)) (fun j => ?_) (Ev.now _)
    simp only [impl_MulGrades_1.l0]
    rw [if_neg (by omega)]; rfl
theorem GV_len {n : Nat} {l : List Int} (h : GV (n : Int) l) : l.length = n * n := by
  have := h.1.2.2.1
  exact_mod_cast this
theorem GV_le {n : Nat} {l : List Int} (h : GV (n : Int) l) : n ≤ 4 ∧ 1 ≤ n := by
  have h1 := h.1.1
  have h2 := h.1.2.1
  omega
theorem GV_nat {n : Int} {l : List Int} (h : GV n l) : ∃ m : Nat, n = (m : Int) := ⟨n.toNat, by have := h.1.1; omega⟩
theorem iMul (n : Nat) (a b : List Int) (ha : GV n a) (hb : GV n b) : Ev (fun k => impl_MulGrades.f k n a n b) ((n : Int), mulL n a b, true) := by
  have hn := (GV_le ha).1
  have hla := GV_len ha
  have hlb := GV_len hb
  have hs := sq_le n hn
  have hm : ∀ l : List Int, l.length = n * n → l.length ≤ maxLen := fun l h => by rw [maxLen_eq]; omega
  refine Ev.congr (f := ?f1) (fun k => ?h1) ?k1
  case h1 => unfold impl_MulGrades.f; exact rfl
  refine Ev.bind (iGV n a (hm a hla)) ?_
  refine Ev.congr (f := ?f2) (fun k => ?h2) ?k2
  case h2 => rw [decide_eq_true ha, if_pos rfl] <;> exact rfl
  refine Ev.bind (iGV n b (hm b hlb)) ?_
  refine Ev.congr (f := ?f3) (fun k => ?h3) ?k3
  case h3 => rw [decide_eq_true hb, if_pos rfl, if_pos rfl] <;> exact rfl
  refine Ev.bind (a := ((n : Int), mulL n a b)) ?_ (Ev.now _)
  exact filled_ev n hn (mulE n a b) (fun K y0 y1 => impl_MulGrades_1.f K y0 y1 n a n b) (fun i hi k hk => iMulCell n hn a b hla hlb i k hi hk)
def mulR (n : Int) (a : List Int) (m : Int) (b : List Int) : Int × List Int × Bool := if GV n a ∧ GV m b ∧ n = m then (n, mulL n.toNat a b, true) else (0, [], false)
theorem iMul_any (n : Int) (a : List Int) (m : Int) (b : List Int) (ha : a.length ≤ maxLen) (hb : b.length ≤ maxLen) : Ev (fun k => impl_MulGrades.f k n a m b) (mulR n a m b) := by
  by_cases h : GV n a ∧ GV m b ∧ n = m
  · obtain ⟨h1, h2, rfl⟩ := h
    obtain ⟨z, rfl⟩ := GV_nat h1
    refine (iMul z a b h1 h2).is ?_
    unfold mulR; rw [if_pos ⟨h1, h2, rfl⟩]; rfl
  · have hr : mulR n a m b = (0, [], false) := by unfold mulR; rw [if_neg h]
    rw [hr]
    refine Ev.congr (f := ?f4) (fun k => ?h4) ?k4
    case h4 => unfold impl_MulGrades.f; exact rfl
    refine Ev.bind (iGV n a ha) ?_
    by_cases h1 : GV n a
    · refine Ev.congr (f := ?f5) (fun k => ?h5) ?k5
      case h5 => rw [decide_eq_true h1, if_pos rfl] <;> exact rfl
      refine Ev.bind (iGV m b hb) ?_
      by_cases h2 : GV m b
      · exact ev_some (fun k => by rw [decide_eq_true h2, if_pos rfl, if_neg (fun e => h ⟨h1, h2, e⟩)])
      · exact ev_some (fun k => by rw [decide_eq_false h2]; rfl)
    · exact ev_some (fun k => by rw [decide_eq_false h1]; rfl)
theorem tdiv_nat (m n : Nat) : Int.tdiv (m : Int) (n : Int) = ((m / n : Nat) : Int) := by rw [Int.tdiv_eq_ediv_of_nonneg (by omega)]; simp
theorem tmod_nat (m n : Nat) : Int.tmod (m : Int) (n : Int) = ((m % n : Nat) : Int) := by rw [Int.tmod_eq_emod_of_nonneg (by omega)]; simp
theorem idx1 (n m l : Nat) (hn : n ≤ 4) (hi : m / n < n) (hl : l < n) : wrap64 (wrap64 (wrap64 (Int.tdiv (m : Int) (n : Int)) * (n : Int)) + l) = ((m / n * n + l : Nat) : Int) := by
  have r1 := row_le n (m / n) hn (by omega)
  rw [tdiv_nat]
  obtain ⟨q, hq⟩ : ∃ q : Nat, m / n = q := ⟨_, rfl⟩
  rw [hq] at hi r1 ⊢
  have h1 : ((q : Nat) : Int) * (n : Int) = ((q * n : Nat) : Int) := by simp
  obtain ⟨s, hs⟩ : ∃ s : Nat, q * n = s := ⟨_, rfl⟩
  rw [w64 (x := ((q : Nat) : Int)) (by omega) (by omega), h1]
  rw [hs] at r1 ⊢
  clear h1 hs hq
  rw [w64 (x := ((s : Nat) : Int)) (by omega) (by omega), w64 (by omega) (by omega)]; simp
theorem idx2 (n m l : Nat) (hn : n ≤ 4) (hk : m % n < n) (hl : l < n) : wrap64 (wrap64 ((l : Int) * (n : Int)) + Int.tmod (m : Int) (n : Int)) = ((l * n + m % n : Nat) : Int) := by
  have r2 := row_le n l hn (by omega)
  rw [tmod_nat]
  obtain ⟨q, hq⟩ : ∃ q : Nat, m % n = q := ⟨_, rfl⟩
  rw [hq] at hk ⊢
  have h1 : (l : Int) * (n : Int) = ((l * n : Nat) : Int) := by simp
  obtain ⟨s, hs⟩ : ∃ s : Nat, l * n = s := ⟨_, rfl⟩
  rw [h1]
  rw [hs] at r2 ⊢
  clear h1 hs hq
  rw [w64 (x := ((s : Nat) : Int)) (by omega) (by omega), w64 (by omega) (by omega)]; simp
theorem sMul (n : Nat) (hn : n ≤ 4) (h0 : 1 ≤ n) (a b : List Int) (hla : a.length = n * n) (hlb : b.length = n * n) : Ev (fun k => spec_l6Mul.f k n a n b) ((n : Int), mulL n a b) := by
  have hs := sq_le n hn
  have e0 : wrap64 ((n : Int) * (n : Int)) = ((n * n : Nat) : Int) := by
    have : (n : Int) * (n : Int) = ((n * n : Nat) : Int) := by simp
    rw [this, w64 (by omega) (by omega)]
  refine Ev.congr (f := fun k => spec_l6Mul.l0 k ((n * n : Nat) : Int) ((0 : Nat) : Int) n a n b n (tab 0 (fun m => mulE n a b (m / n) (m % n)))) (fun k => ?_) ?_
  · unfold spec_l6Mul.f; rw [e0]; simp [tab]
  refine up_loop (n * n) (fun m k => spec_l6Mul.l0 k ((n * n : Nat) : Int) (m : Int) n a n b n (tab m (fun m => mulE n a b (m / n) (m % n)))) _ (fun m hm hnext => ?_) ?_
  · have hi : m / n < n := Nat.div_lt_of_lt_mul hm
    have hk : m % n < n := Nat.mod_lt _ (by omega)
    refine Ev.step (f := fun k => spec_l6Mul.l1 k m ((List.range 0).foldl (fun acc l => mn acc (mx (a.getD (m / n * n + l) 0) (b.getD (l * n + m % n) 0))) 3) ((n * n : Nat) : Int) m n ((0 : Nat) : Int) n a n b n (tab m (fun m => mulE n a b (m / n) (m % n)))) (fun k => ?_) ?_
    · simp only [spec_l6Mul.l0]; rw [if_pos (by omega)]; rfl
    refine up_loop n (fun l k => spec_l6Mul.l1 k m ((List.range l).foldl (fun acc l => mn acc (mx (a.getD (m / n * n + l) 0) (b.getD (l * n + m % n) 0))) 3) ((n * n : Nat) : Int) m n (l : Int) n a n b n (tab m (fun m => mulE n a b (m / n) (m % n)))) _ (fun l hl hs2 => ?_) ?_
    · refine Ev.step (fun j => ?_) hs2
      have c1 := cell_lt n (m / n) l hi hl
      have c2 := cell_lt n l (m % n) hl hk
      have r1 := row_le n (m / n) hn (by omega)
      have r2 := row_le n l hn (by omega)
      have hA : (l : Int) < (n : Int) := by omega
      have hB : ¬ (n : Int) = 0 := by omega
      have hC : (((m / n * n + l : Nat)) : Int) < (a.length : Int) := by rw [hla]; exact_mod_cast c1
      have hD : (((l * n + m % n : Nat)) : Int) < (b.length : Int) := by rw [hlb]; exact_mod_cast c2
      have hE : wrap64 ((l : Int) + 1) = ((l + 1 : Nat) : Int) := by rw [w64 (by omega) (by omega)]; rfl
      have e1 := idx1 n m l hn hi hl
      have e2 := idx2 n m l hn hk hl
      simp only [spec_l6Mul.l1]
      rw [if_pos hA, if_neg hB, e1, e2, if_pos (Int.natCast_nonneg _), if_pos hC, if_pos (Int.natCast_nonneg _), if_pos hD, rd_nat, rd_nat, hE, fold_snoc]
    · refine Ev.step (fun j => ?_) hnext
      simp only [spec_l6Mul.l1]
      rw [if_neg (by omega), tab_length, if_pos (by omega), w64 (by omega) (by omega)]
      have e : tab m (fun m => mulE n a b (m / n) (m % n)) ++ [mulE n a b (m / n) (m % n)] = tab (m + 1) (fun m => mulE n a b (m / n) (m % n)) := tab_snoc m (fun m => mulE n a b (m / n) (m % n))
      show spec_l6Mul.l0 j _ _ _ _ _ _ _ (tab m (fun m => mulE n a b (m / n) (m % n)) ++ [mulE n a b (m / n) (m % n)]) = _
      rw [e]; rfl
  · refine Ev.step (f := fun _ => some ((n : Int), mulL n a b)) (fun j => ?_) (Ev.now _)
    simp only [spec_l6Mul.l0]
    rw [if_neg (by omega)]; rfl
theorem sMul_any (n : Int) (a : List Int) (m : Int) (b : List Int) (ha : a.length ≤ maxLen) (hb : b.length ≤ maxLen) : Ev (fun k => spec_MulGrades.f k n a m b) (mulR n a m b) := by
  refine Ev.congr (f := ?f6) (fun k => ?h6) ?k6
  case h6 => unfold spec_MulGrades.f; exact rfl
  refine Ev.bind (sGV n a ha) ?_
  by_cases h1 : GV n a
  · refine Ev.congr (f := ?f7) (fun k => ?h7) ?k7
    case h7 => rw [decide_eq_true h1, if_pos rfl] <;> exact rfl
    refine Ev.bind (sGV m b hb) ?_
    by_cases h2 : GV m b
    · by_cases e : n = m
      · subst e
        obtain ⟨z, rfl⟩ := GV_nat h1
        refine Ev.congr (f := ?f8) (fun k => ?h8) ?k8
        case h8 => rw [decide_eq_true h2, if_pos rfl, if_pos rfl] <;> exact rfl
        refine Ev.bind (sMul z (GV_le h1).1 (GV_le h1).2 a b (GV_len h1) (GV_len h2)) ((Ev.now _).is ?_)
        unfold mulR; rw [if_pos ⟨h1, h2, rfl⟩]; rfl
      · refine ev_some (fun k => ?_)
        rw [decide_eq_true h2, if_pos rfl, if_neg e]; unfold mulR; rw [if_neg (fun h => e h.2.2)]
    · refine ev_some (fun k => ?_)
      rw [decide_eq_false h2, if_neg (by simp)]; unfold mulR; rw [if_neg (fun h => h2 h.2.1)]
  · refine ev_some (fun k => ?_)
    rw [decide_eq_false h1, if_neg (by simp)]; unfold mulR; rw [if_neg (fun h => h1 h.1)]
end Go.Proofs.Ytengegdaiphfeaa.Y
end
section
namespace Go.Proofs.Ytengegdaiphfeaa.Y
open Go.RowKit Go.Proofs.Ytengegdaiphfeaa.X Go.Proofs.YtengegdaiphfeaaW.PrintWords Go.Proofs.YtengegdaiphfeaaW.PrintLast Go.Proofs.YtengegdaiphfeaaW.PrintMore
set_option linter.unusedVariables false
set_option linter.unusedSimpArgs false
theorem slicesEq_ev (a b : List Int) (h : a.length ≤ 1000000000) : Ev (fun k => slices_Equal_int_int.f k a b) (decide (a = b)) := by
  by_cases hl : a.length = b.length
  · have go : ∀ (t u pre : List Int), a = pre ++ t → b = pre ++ u → Ev (fun k => slices_Equal_int_int.l0 k a b (a.length : Int) (pre.length : Int)) (decide (a = b)) := by
      intro t
      induction t with
      | nil =>
        intro u pre ha hb
        have hu : u = [] := by
          have h1 := congrArg List.length ha
          have h2 := congrArg List.length hb
          simp at h1 h2
          exact List.length_eq_zero_iff.mp (by omega)
        subst hu
        have hab : a = b := by rw [ha, hb]
        refine Ev.step (f := fun _ => some true) (fun k => ?_) ((Ev.now _).is (by rw [decide_eq_true hab]))
        simp only [slices_Equal_int_int.l0]
        rw [if_neg (by rw [ha]; simp)]
      | cons x t ih =>
        intro u pre ha hb
        have hla : a.length = pre.length + (t.length + 1) := by rw [ha]; simp
        cases u with
        | nil => have h2 := congrArg List.length hb; simp at h2; omega
        | cons y u =>
          by_cases hxy : x = y
          · subst hxy
            refine Ev.step (fun k => ?_) (ih u (pre ++ [x]) (by simp [ha]) (by simp [hb]))
            simp only [slices_Equal_int_int.l0]
            rw [if_pos (by omega), if_pos (by omega), if_pos (by omega), if_pos (by omega), w64 (x := (pre.length : Int) + 1) (by omega) (by omega), snoc_len, if_pos (by rw [ha, hb, rd_mid, rd_mid])]
          · have hab : ¬ a = b := by
              intro e
              rw [ha, hb] at e
              have := List.append_cancel_left e
              simp at this
              exact hxy this.1
            refine Ev.step (f := fun _ => some false) (fun k => ?_) ((Ev.now _).is (by rw [decide_eq_false hab]))
            simp only [slices_Equal_int_int.l0]
            rw [if_pos (by omega), if_pos (by omega), if_pos (by omega), if_pos (by omega), if_neg (by rw [ha, hb, rd_mid, rd_mid]; exact hxy)]
    refine Ev.congr (fun k => ?_) (go a b [] rfl rfl)
    unfold slices_Equal_int_int.f
    rw [if_pos (by omega)]; rfl
  · have hab : ¬ a = b := fun e => hl (by rw [e])
    refine Ev.congr (f := fun _ => some false) (fun k => ?_) ((Ev.now _).is (by rw [decide_eq_false hab]))
    unfold slices_Equal_int_int.f
    rw [if_neg (by omega)]
theorem iSame_ev (n : Int) (a : List Int) (m : Int) (b : List Int) (h : a.length ≤ 1000000000) : Ev (fun k => impl_SameMatrix.f k n a m b) (decide (n = m ∧ a = b)) := by
  unfold impl_SameMatrix.f
  by_cases e : n = m
  · exact Ev_t e (Ev.bind (slicesEq_ev a b h) ((Ev.now _).is (by simp [e])))
  · exact Ev_f e ((Ev.now _).is (by simp [e]))
theorem sSame_ev (a b : List Int) (hl : a.length = b.length) (h : a.length ≤ 1000000000) : Ev (fun k => spec_l2Same.f k a b) (decide (a = b)) := by
  have go : ∀ (t u pre : List Int), a = pre ++ t → b = pre ++ u → Ev (fun k => spec_l2Same.l0 k a b (a.length : Int) (pre.length : Int)) (decide (a = b)) := by
    intro t
    induction t with
    | nil =>
      intro u pre ha hb
      have hu : u = [] := by
        have h1 := congrArg List.length ha
        have h2 := congrArg List.length hb
        simp at h1 h2
        exact List.length_eq_zero_iff.mp (by omega)
      subst hu
      have hab : a = b := by rw [ha, hb]
      refine Ev.step (f := fun _ => some ((a.length : Int) == (b.length : Int))) (fun k => ?_) ((Ev.now _).is (by rw [decide_eq_true hab, hl]; simp))
      simp only [spec_l2Same.l0]
      rw [if_neg (by rw [ha]; simp)]
    | cons x t ih =>
      intro u pre ha hb
      have hla : a.length = pre.length + (t.length + 1) := by rw [ha]; simp
      cases u with
      | nil => have h2 := congrArg List.length hb; simp at h2; omega
      | cons y u =>
        by_cases hxy : x = y
        · subst hxy
          refine Ev.step (fun k => ?_) (ih u (pre ++ [x]) (by simp [ha]) (by simp [hb]))
          simp only [spec_l2Same.l0]
          rw [if_pos (by omega), if_pos (by omega), if_pos (by omega), if_pos (by omega), w64 (x := (pre.length : Int) + 1) (by omega) (by omega), snoc_len, if_pos (by rw [ha, hb, rd_mid, rd_mid])]
        · have hab : ¬ a = b := by
            intro e
            rw [ha, hb] at e
            have := List.append_cancel_left e
            simp at this
            exact hxy this.1
          refine Ev.step (f := fun _ => some false) (fun k => ?_) ((Ev.now _).is (by rw [decide_eq_false hab]))
          simp only [spec_l2Same.l0]
          rw [if_pos (by omega), if_pos (by omega), if_pos (by omega), if_pos (by omega), if_neg (by rw [ha, hb, rd_mid, rd_mid]; exact hxy)]
  refine Ev.congr (fun k => ?_) (go a b [] rfl rfl)
  unfold spec_l2Same.f
  have e : mn (a.length : Int) (b.length : Int) = (a.length : Int) := by unfold mn; rw [if_neg (by omega)]
  rw [e]; rfl
def Idem (n : Int) (l : List Int) : Prop := GV n l ∧ mulL n.toNat l l = l
instance (n : Int) (l : List Int) : Decidable (Idem n l) := by unfold Idem; infer_instance
theorem len_of_GV {n : Int} {l : List Int} (h : GV n l) : l.length ≤ 16 := by
  obtain ⟨m, rfl⟩ := GV_nat h
  have h1 := GV_len h
  have h2 := sq_le m (GV_le h).1
  omega
theorem iIdem (n : Int) (l : List Int) (h : l.length ≤ maxLen) : Ev (fun k => impl_IsIdempotent.f k n l) (decide (Idem n l)) := by
  unfold impl_IsIdempotent.f
  refine Ev.bind (iMul_any n l n l h h) ?_
  by_cases g : GV n l
  · have e : mulR n l n l = (n, mulL n.toNat l l, true) := by unfold mulR; rw [if_pos ⟨g, g, rfl⟩]
    rw [e]
    refine Ev_t rfl ?_
    have h16 := len_of_GV g
    obtain ⟨m, rfl⟩ := GV_nat g
    have h2 := sq_le m (GV_le g).1
    refine Ev.bind (iSame_ev (m : Int) (mulL m l l) m l (by rw [mulL_length]; omega)) ((Ev.now _).is ?_)
    rw [Bool.eq_iff_iff]
    simp only [decide_eq_true_eq]
    exact ⟨fun x => ⟨g, x.2⟩, fun x => ⟨by trivial, x.2⟩⟩
  · have e : mulR n l n l = (0, [], false) := by unfold mulR; rw [if_neg (fun x => g x.1)]
    rw [e]
    exact Ev_f (by simp) ((Ev.now _).is (by rw [decide_eq_false (fun x : Idem n l => g x.1)]))
theorem sIdemG (n : Nat) (l : List Int) (g : GV n l) : Ev (fun k => spec_l6Idempotent.f k n l) (decide (Idem n l)) := by
  have hn := GV_le g
  have hl := GV_len g
  have h2 := sq_le n hn.1
  unfold spec_l6Idempotent.f
  refine Ev.bind (sMul n hn.1 hn.2 l l hl hl) ?_
  refine Ev.bind (sSame_ev (mulL n l l) l (by rw [mulL_length, hl]) (by rw [mulL_length]; omega)) ((Ev.now _).is ?_)
  rw [Bool.eq_iff_iff]
  simp only [decide_eq_true_eq]
  exact ⟨fun x => ⟨g, x⟩, fun x => x.2⟩
theorem sIdem (n : Int) (l : List Int) (h : l.length ≤ maxLen) : Ev (fun k => spec_IsIdempotent.f k n l) (decide (Idem n l)) := by
  unfold spec_IsIdempotent.f
  refine Ev.bind (sGV n l h) ?_
  by_cases g : GV n l
  · obtain ⟨m, rfl⟩ := GV_nat g
    exact Ev_t (decide_eq_true g) (Ev.bind (sIdemG m l g) (Ev.now _))
  · exact Ev_f (by rw [decide_eq_false g]; simp) ((Ev.now _).is (by rw [decide_eq_false (fun x : Idem n l => g x.1)]))
end Go.Proofs.Ytengegdaiphfeaa.Y
end
section
namespace Go.Proofs.Ytengegdaiphfeaa.Y
open Go.RowKit Go.Proofs.Ytengegdaiphfeaa.X Go.Proofs.YtengegdaiphfeaaW.PrintWords Go.Proofs.YtengegdaiphfeaaW.PrintLast Go.Proofs.YtengegdaiphfeaaW.PrintMore
set_option linter.unusedVariables false
set_option linter.unusedSimpArgs false
def ag (x : Int) : Int := if x = 1 then 2 else x
def stE (n : Nat) (a : List Int) (i k : Nat) : Int := (List.range n).foldl (fun acc l => mn acc (mx (mx (a.getD (i * n + l) 0) (ag (a.getD (l * n + l) 0))) (a.getD (l * n + k) 0))) 3
def stL (n : Nat) (a : List Int) : List Int := sqL n (stE n a)
def stabR (n : Int) (l : List Int) : Int × List Int × Bool := if Idem n l then (n, stL n.toNat l, true) else (0, [], false)
theorem stL_length (n : Nat) (a : List Int) : (stL n a).length = n * n := by simp [stL, sqL, tab_length]
theorem stabR_len (n : Int) (l : List Int) : (stabR n l).2.1.length ≤ 16 := by
  unfold stabR
  by_cases g : Idem n l
  · rw [if_pos g]
    obtain ⟨m, rfl⟩ := GV_nat g.1
    have := sq_le m (GV_le g.1).1
    show (stL m l).length ≤ 16
    rw [stL_length]; exact this
  · rw [if_neg g]; simp
theorem iStCell (n : Nat) (hn : n ≤ 4) (a : List Int) (ha : a.length = n * n) (i k : Nat) (hi : i < n) (hk : k < n) :
    Ev (fun K => impl_Stabilise_1.f K (i : Int) (k : Int) (n : Int) a) (stE n a i k) := by
  refine up_loop n (fun l K => impl_Stabilise_1.l0 K i k ((List.range l).foldl (fun acc l => mn acc (mx (mx (a.getD (i * n + l) 0) (ag (a.getD (l * n + l) 0))) (a.getD (l * n + k) 0))) 3) n (l : Int) n a) _ (fun l hl hs => ?_) ?_
  · refine Ev.step (fun j => ?_) hs
    simp only [impl_Stabilise_1.l0]
    rw [if_pos (by omega), at_eq n hn a ha l l hl hl, Option.bind_some, at_eq n hn a ha i l hi hl, Option.bind_some, at_eq n hn a ha l k hl hk, Option.bind_some, Option.bind_some, w64 (x := (l : Int) + 1) (by omega) (by omega), fold_snoc]
    by_cases e : a.getD (l * n + l) 0 = 1
    · rw [if_pos e]; unfold ag; rw [if_pos e]; rfl
    · rw [if_neg e]; unfold ag; rw [if_neg e]; rfl
  · refine Ev.step (f := fun _ => some (stE n a i k)) (fun j => ?_) (Ev.now _)
    simp only [impl_Stabilise_1.l0]
    rw [if_neg (by omega)]; rfl
theorem iStab (n : Int) (l : List Int) (hl : l.length ≤ maxLen) : Ev (fun k => impl_Stabilise.f k n l) (stabR n l) := by
  unfold impl_Stabilise.f
  refine Ev.bind (iIdem n l hl) ?_
  by_cases g : Idem n l
  · refine Ev_t (decide_eq_true g) ?_
    have e : stabR n l = (n, stL n.toNat l, true) := by unfold stabR; rw [if_pos g]
    rw [e]
    obtain ⟨m, rfl⟩ := GV_nat g.1
    refine Ev.bind (a := ((m : Int), stL m l)) ?_ (Ev.now _)
    exact filled_ev m (GV_le g.1).1 (stE m l) (fun K y0 y1 => impl_Stabilise_1.f K y0 y1 m l) (fun i hi k hk => iStCell m (GV_le g.1).1 l (GV_len g.1) i k hi hk)
  · refine Ev_f (by rw [decide_eq_false g]; simp) ((Ev.now _).is ?_)
    unfold stabR; rw [if_neg g]
theorem sAgain (x : Int) : spec_l6Again.f x = some (ag x) := by
  unfold spec_l6Again.f ag
  by_cases e : x = 1
  · rw [if_pos e, if_pos e]
  · rw [if_neg e, if_neg e]
theorem idx3 (n l : Nat) (hn : n ≤ 4) (hl : l < n) : wrap64 (wrap64 ((l : Int) * (n : Int)) + (l : Int)) = ((l * n + l : Nat) : Int) := by
  have r2 := row_le n l hn (by omega)
  have : (l : Int) * (n : Int) = ((l * n : Nat) : Int) := by simp
  rw [this, w64 (x := ((l * n : Nat) : Int)) (by omega) (by omega), w64 (x := ((l * n : Nat) : Int) + (l : Int)) (by omega) (by omega)]
  simp
theorem sStab1 (n : Nat) (hn : n ≤ 4) (h0 : 1 ≤ n) (a : List Int) (hla : a.length = n * n) : Ev (fun k => spec_l6Stable.f k n a) ((n : Int), stL n a) := by
  have hs := sq_le n hn
  have e0 : wrap64 ((n : Int) * (n : Int)) = ((n * n : Nat) : Int) := by
    have : (n : Int) * (n : Int) = ((n * n : Nat) : Int) := by simp
    rw [this, w64 (by omega) (by omega)]
  refine Ev.congr (f := fun k => spec_l6Stable.l0 k ((n * n : Nat) : Int) ((0 : Nat) : Int) n a n (tab 0 (fun m => stE n a (m / n) (m % n)))) (fun k => ?_) ?_
  · unfold spec_l6Stable.f; rw [e0]; simp [tab]
  refine up_loop (n * n) (fun m k => spec_l6Stable.l0 k ((n * n : Nat) : Int) (m : Int) n a n (tab m (fun m => stE n a (m / n) (m % n)))) _ (fun m hm hnext => ?_) ?_
  · have hi : m / n < n := Nat.div_lt_of_lt_mul hm
    have hk : m % n < n := Nat.mod_lt _ (by omega)
    refine Ev.step (f := fun k => spec_l6Stable.l1 k m ((List.range 0).foldl (fun acc l => mn acc (mx (mx (a.getD (m / n * n + l) 0) (ag (a.getD (l * n + l) 0))) (a.getD (l * n + m % n) 0))) 3) ((n * n : Nat) : Int) m n ((0 : Nat) : Int) n a n (tab m (fun m => stE n a (m / n) (m % n)))) (fun k => ?_) ?_
    · simp only [spec_l6Stable.l0]; rw [if_pos (by omega)]; rfl
    refine up_loop n (fun l k => spec_l6Stable.l1 k m ((List.range l).foldl (fun acc l => mn acc (mx (mx (a.getD (m / n * n + l) 0) (ag (a.getD (l * n + l) 0))) (a.getD (l * n + m % n) 0))) 3) ((n * n : Nat) : Int) m n (l : Int) n a n (tab m (fun m => stE n a (m / n) (m % n)))) _ (fun l hl hs2 => ?_) ?_
    · refine Ev.step (fun j => ?_) hs2
      have c1 := cell_lt n (m / n) l hi hl
      have c2 := cell_lt n l (m % n) hl hk
      have c3 := cell_lt n l l hl hl
      have hA : (l : Int) < (n : Int) := by omega
      have hB : ¬ (n : Int) = 0 := by omega
      have hC : (((m / n * n + l : Nat)) : Int) < (a.length : Int) := by rw [hla]; exact_mod_cast c1
      have hD : (((l * n + m % n : Nat)) : Int) < (a.length : Int) := by rw [hla]; exact_mod_cast c2
      have hF : (((l * n + l : Nat)) : Int) < (a.length : Int) := by rw [hla]; exact_mod_cast c3
      have hE : wrap64 ((l : Int) + 1) = ((l + 1 : Nat) : Int) := by rw [w64 (by omega) (by omega)]; rfl
      have e1 := idx1 n m l hn hi hl
      have e2 := idx2 n m l hn hk hl
      have e3 := idx3 n l hn hl
      simp only [spec_l6Stable.l1]
      rw [if_pos hA, if_neg hB, e1, e2, e3, if_pos (Int.natCast_nonneg _), if_pos hC, if_pos (Int.natCast_nonneg _), if_pos hF, sAgain, Option.bind_some, if_pos (Int.natCast_nonneg _), if_pos hD, rd_nat, rd_nat, rd_nat, hE, fold_snoc]
    · refine Ev.step (fun j => ?_) hnext
      simp only [spec_l6Stable.l1]
      rw [if_neg (by omega), tab_length, if_pos (by omega), w64 (x := (m : Int) + 1) (by omega) (by omega)]
      have e : tab m (fun m => stE n a (m / n) (m % n)) ++ [stE n a (m / n) (m % n)] = tab (m + 1) (fun m => stE n a (m / n) (m % n)) := tab_snoc m (fun m => stE n a (m / n) (m % n))
      show spec_l6Stable.l0 j _ _ _ _ _ (tab m (fun m => stE n a (m / n) (m % n)) ++ [stE n a (m / n) (m % n)]) = _
      rw [e]; rfl
  · refine Ev.step (f := fun _ => some ((n : Int), stL n a)) (fun j => ?_) (Ev.now _)
    simp only [spec_l6Stable.l0]
    rw [if_neg (by omega)]; rfl
theorem sStab (n : Int) (l : List Int) (hl : l.length ≤ maxLen) : Ev (fun k => spec_Stabilise.f k n l) (stabR n l) := by
  unfold spec_Stabilise.f
  refine Ev.bind (sIdem n l hl) ?_
  by_cases g : Idem n l
  · have e : stabR n l = (n, stL n.toNat l, true) := by unfold stabR; rw [if_pos g]
    rw [e]
    obtain ⟨m, rfl⟩ := GV_nat g.1
    exact Ev_t (decide_eq_true g) (Ev.bind (sStab1 m (GV_le g.1).1 (GV_le g.1).2 l (GV_len g.1)) (Ev.now _))
  · refine Ev_f (by rw [decide_eq_false g]; simp) ((Ev.now _).is ?_)
    unfold stabR; rw [if_neg g]
end Go.Proofs.Ytengegdaiphfeaa.Y
end
