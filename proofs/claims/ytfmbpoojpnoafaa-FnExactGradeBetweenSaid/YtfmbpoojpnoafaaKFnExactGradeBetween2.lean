import Derived.Test.YtfmbpoojpnoafaaKFnExactGradeBetween1
section
namespace Go.Proofs.Ytfmbpoojpnoafaa.X
open Go.RowKit Go.Proofs.YtfmbpoojpnoafaaW.PrintWords Go.Proofs.YtfmbpoojpnoafaaW.PrintLast Go.Proofs.YtfmbpoojpnoafaaW.PrintMore
attribute [local go_sem] max2_int min2_int max_two min_two max_three min_three max_four min_four
set_option linter.unusedVariables false
set_option linter.unusedSimpArgs false
mutual
def impl_AutomatonValid.j0 : Nat → Bool → Int → List Int → List Int → List (S92) → Option (Bool)
 | 0,_,_,_,_,_ => none
 | k + 1,x34,x199000,x199001,x199002,x199003 => if x34 = true then (some false) else (impl_AutomatonValid.l0 k x199003 (x199003.length : Int) 0 x199000 x199001 x199002 x199003)
def impl_AutomatonValid.l0 : Nat → List (S92) → Int → Int → Int → List Int → List Int → List (S92) → Option (Bool)
 | 0,_,_,_,_,_,_,_ => none
 | k + 1,x36,x37,x38,x199000,x199001,x199002,x199003 => if x38 < x37 then (if 0 ≤ x38 then (if x38 < (x36.length : Int) then (if ((rd_T92 x36 x38).f0) < 0 then (some false) else (if ((rd_T92 x36 x38).f0) ≥ x199000 then (some false) else (if ((rd_T92 x36 x38).f2) < 0 then (some false) else (if ((rd_T92 x36 x38).f2) ≥ x199000 then (some false) else (if ((rd_T92 x36 x38).f1).toList = ([97] : List UInt8) then (if ((rd_T92 x36 x38).f3) < 0 then (some false) else (if ((rd_T92 x36 x38).f3) > 3 then (some false) else (if x38 > 0 then (if 0 ≤ (wrap64 (x38 - 1)) then (if (wrap64 (x38 - 1)) < (x199003.length : Int) then ((impl_stepOrder.f k ((rd_T92 x199003 (wrap64 (x38 - 1))).f0) ((rd_T92 x199003 (wrap64 (x38 - 1))).f1) ((rd_T92 x199003 (wrap64 (x38 - 1))).f2) ((rd_T92 x199003 (wrap64 (x38 - 1))).f3) ((rd_T92 x36 x38).f0) ((rd_T92 x36 x38).f1) ((rd_T92 x36 x38).f2) ((rd_T92 x36 x38).f3)).bind fun t204 => (if t204 ≥ 0 then (some false) else (impl_AutomatonValid.l0 k x36 x37 (wrap64 (x38 + 1)) x199000 x199001 x199002 x199003))) else (none)) else (none)) else (impl_AutomatonValid.l0 k x36 x37 (wrap64 (x38 + 1)) x199000 x199001 x199002 x199003)))) else (if ((rd_T92 x36 x38).f1).toList = ([98] : List UInt8) then (if ((rd_T92 x36 x38).f3) < 0 then (some false) else (if ((rd_T92 x36 x38).f3) > 3 then (some false) else (if x38 > 0 then (if 0 ≤ (wrap64 (x38 - 1)) then (if (wrap64 (x38 - 1)) < (x199003.length : Int) then ((impl_stepOrder.f k ((rd_T92 x199003 (wrap64 (x38 - 1))).f0) ((rd_T92 x199003 (wrap64 (x38 - 1))).f1) ((rd_T92 x199003 (wrap64 (x38 - 1))).f2) ((rd_T92 x199003 (wrap64 (x38 - 1))).f3) ((rd_T92 x36 x38).f0) ((rd_T92 x36 x38).f1) ((rd_T92 x36 x38).f2) ((rd_T92 x36 x38).f3)).bind fun t206 => (if t206 ≥ 0 then (some false) else (impl_AutomatonValid.l0 k x36 x37 (wrap64 (x38 + 1)) x199000 x199001 x199002 x199003))) else (none)) else (none)) else (impl_AutomatonValid.l0 k x36 x37 (wrap64 (x38 + 1)) x199000 x199001 x199002 x199003)))) else (some false))))))) else (none)) else (none)) else (some true)
end
def impl_AutomatonValid.f (k : Nat) (a0_0 : Int) (l0_1 : List Int) (l0_2 : List Int) (l0_3 : List (S92)) : Option (Bool):=if a0_0 < 1 then (impl_AutomatonValid.j0 k true a0_0 l0_1 l0_2 l0_3) else (if a0_0 > 4 then (impl_AutomatonValid.j0 k true a0_0 l0_1 l0_2 l0_3) else (if (l0_3.length : Int) > 24 then (impl_AutomatonValid.j0 k true a0_0 l0_1 l0_2 l0_3) else ((impl_statesOk.f k l0_1 a0_0).bind fun t199 => (if t199 = true then ((impl_statesOk.f k l0_2 a0_0).bind fun t200 => (impl_AutomatonValid.j0 k (!t200) a0_0 l0_1 l0_2 l0_3)) else (impl_AutomatonValid.j0 k true a0_0 l0_1 l0_2 l0_3)))))
theorem impl_AutomatonValid.mono_l : ∀ k,(∀ y0 y1 y2 y3 y4,LeO (impl_AutomatonValid.j0 k y0 y1 y2 y3 y4) (impl_AutomatonValid.j0 (k + 1) y0 y1 y2 y3 y4)) ∧ (∀ y0 y1 y2 y3 y4 y5 y6,LeO (impl_AutomatonValid.l0 k y0 y1 y2 y3 y4 y5 y6) (impl_AutomatonValid.l0 (k + 1) y0 y1 y2 y3 y4 y5 y6))
 | 0 => ⟨fun _ _ _ _ _ r h => by simp [impl_AutomatonValid.j0] at h,fun _ _ _ _ _ _ _ r h => by simp [impl_AutomatonValid.l0] at h⟩
 | k + 1 => by
  obtain ⟨ih0,ih1⟩:=impl_AutomatonValid.mono_l k
  refine ⟨?_,?_⟩
  ·intro y0 y1 y2 y3 y4
   unfold impl_AutomatonValid.j0
   repeat' first
   | (with_reducible exact ih0 _ _ _ _ _)
   | (with_reducible exact ih1 _ _ _ _ _ _ _)
   | (with_reducible exact impl_statesOk.mono _ _ _)
   | (with_reducible exact impl_stepOrder.mono _ _ _ _ _ _ _ _ _)
   | (with_reducible exact LeO.refl _)
   | (with_reducible exact LeO.none _)
   | (with_reducible refine LeO.ite ?_ ?_)
   | (with_reducible refine LeO.bind ?_ (fun _ => ?_))
   | exact ih0 _ _ _ _ _
   | exact ih1 _ _ _ _ _ _ _
   | exact impl_statesOk.mono _ _ _
   | exact impl_stepOrder.mono _ _ _ _ _ _ _ _ _
   | exact LeO.none _
   | refine LeO.ite ?_ ?_
   | refine LeO.bind ?_ (fun _ => ?_)
  ·intro y0 y1 y2 y3 y4 y5 y6
   unfold impl_AutomatonValid.l0
   repeat' first
   | (with_reducible exact ih0 _ _ _ _ _)
   | (with_reducible exact ih1 _ _ _ _ _ _ _)
   | (with_reducible exact impl_statesOk.mono _ _ _)
   | (with_reducible exact impl_stepOrder.mono _ _ _ _ _ _ _ _ _)
   | (with_reducible exact LeO.refl _)
   | (with_reducible exact LeO.none _)
   | (with_reducible refine LeO.ite ?_ ?_)
   | (with_reducible refine LeO.bind ?_ (fun _ => ?_))
   | exact ih0 _ _ _ _ _
   | exact ih1 _ _ _ _ _ _ _
   | exact impl_statesOk.mono _ _ _
   | exact impl_stepOrder.mono _ _ _ _ _ _ _ _ _
   | exact LeO.none _
   | refine LeO.ite ?_ ?_
   | refine LeO.bind ?_ (fun _ => ?_)
theorem impl_AutomatonValid.mono : ∀ a0 a1 a2 a3 k,LeO (impl_AutomatonValid.f k a0 a1 a2 a3) (impl_AutomatonValid.f (k + 1) a0 a1 a2 a3):=by
 intro a0 a1 a2 a3 k
 obtain ⟨ih0,ih1⟩:=impl_AutomatonValid.mono_l k
 unfold impl_AutomatonValid.f
 repeat' first
   | (with_reducible exact ih0 _ _ _ _ _)
   | (with_reducible exact ih1 _ _ _ _ _ _ _)
   | (with_reducible exact impl_statesOk.mono _ _ _)
   | (with_reducible exact impl_stepOrder.mono _ _ _ _ _ _ _ _ _)
   | (with_reducible exact LeO.refl _)
   | (with_reducible exact LeO.none _)
   | (with_reducible refine LeO.ite ?_ ?_)
   | (with_reducible refine LeO.bind ?_ (fun _ => ?_))
   | exact ih0 _ _ _ _ _
   | exact ih1 _ _ _ _ _ _ _
   | exact impl_statesOk.mono _ _ _
   | exact impl_stepOrder.mono _ _ _ _ _ _ _ _ _
   | exact LeO.none _
   | refine LeO.ite ?_ ?_
   | refine LeO.bind ?_ (fun _ => ?_)
def impl_AutomatonValid.T6 : Bool × List (List Nat × List Nat):=(true,[([],[]),([0],[0]),([1],[1]),([2],[2]),([3],[3]),([4,3],[3,4]),([3],[3]),([6,3],[3,6]),([5,7,3],[3,5,7]),([3,8],[3,8]),([9,3],[9]),([10],[10]),([11,10],[10,11]),([12,10],[10,12]),([10,13],[10,13]),([14,10],[14]),([15],[15]),([16,15],[15,16]),([15],[15]),([18,15],[15,18]),([17,19,15],[15,17,19]),([15,20],[15,20]),([21,15],[21]),([22],[22]),([23,22],[22,23]),([24,22],[22,24]),([25,22,22],[22,25]),([26],[26]),([27,26],[26,27]),([28,26],[26,28]),([26,29,22],[22,26,29]),([22,30],[22,30]),([31,26],[31]),([32],[32]),([33,32],[32,33]),([34,32],[32,34]),([32,35],[32,35]),([36,32],[36]),([37],[37]),([38,37],[37,38]),([39,37],[37,39]),([37,40],[37,40]),([41,37],[41]),([42],[42]),([43,42],[42,43]),([44,42,42],[42,44]),([45],[45]),([46,45],[45,46]),([45],[45]),([48,45],[45,48]),([47,49,45],[45,47,49]),([50,45],[45,50]),([45],[45]),([51,52,45,45],[45,51,52]),([53,45],[45,53]),([45,54,42],[42,45,54]),([42,55],[42,55])])
def impl_AutomatonValid.B6 : List Nat:=[0,1,3,7,15,31,15,79,255,511,1023,2047,4095,8191,16383,32767,65535,131071,65535,327679,1048575,2097151,4194303,8388607,16777215,33554431,67108863,134217727,268435455,536870911,1073741823,2147483647,4294967295,8589934591,17179869183,34359738367,68719476735,137438953471,274877906943,549755813887,1099511627775,2199023255551,4398046511103,8796093022207,17592186044415,35184372088831,70368744177663,140737488355327,70368744177663,351843720888319,1125899906842623,2251799813685247,70368744177663,9007199254740991,18014398509481983,36028797018963967,72057594037927935]
theorem impl_AutomatonValid.tab6 : rtab .any (opsOf Try.f72 6) = impl_AutomatonValid.T6:=by kernel_rfl
theorem impl_AutomatonValid.bits6 : waitsOk impl_AutomatonValid.T6.2 impl_AutomatonValid.B6 = true:=by kernel_rfl
set_option maxHeartbeats 8000000 in
set_option maxRecDepth 100000 in
theorem impl_AutomatonValid.calls (k : Nat) (a0_0 : Int) (A0_1 : Option Addr) (c0_1 : Nat) (l0_1 : List Int) (A0_2 : Option Addr) (c0_2 : Nat) (l0_2 : List Int) (A0_3 : Option Addr) (c0_3 : Nat) (l0_3 : List (S92)) (r : Bool) (w : World) (hr0_1 : Kd.C (Kd.int .i64) w A0_1 l0_1.length l0_1) (hc0_1 : l0_1.length ≤ c0_1) (hr0_2 : Kd.C (Kd.int .i64) w A0_2 l0_2.length l0_2) (hc0_2 : l0_2.length ≤ c0_2) (hr0_3 : Kd.C k92 w A0_3 l0_3.length l0_3) (hc0_3 : l0_3.length ≤ c0_3) (h : impl_AutomatonValid.f k a0_0 l0_1 l0_2 l0_3 = some r) :
  Calls Try.prog 72 #[.agg #[.int .i64 a0_0,.slice A0_1 l0_1.length c0_1,.slice A0_2 l0_2.length c0_2,.slice A0_3 l0_3.length c0_3]] w fun e w' => e = .returned (.bool r) ∧ Below w.heap.size w w':=by
 have hu33:=Try.underlying33
 have hu92:=Try.underlying92
 have HR0_1:=Aside0.mk hr0_1
 have HC0_1:=Aside0.mk hc0_1
 clear hr0_1 hc0_1
 have HR0_2:=Aside0.mk hr0_2
 have HC0_2:=Aside0.mk hc0_2
 clear hr0_2 hc0_2
 have HR0_3:=Aside0.mk hr0_3
 have HC0_3:=Aside0.mk hc0_3
 clear hr0_3 hc0_3
 have HB:=Aside0.mk (Below.refl w.heap.size w)
 have H : (if a0_0 < 1 then (impl_AutomatonValid.j0 k true a0_0 l0_1 l0_2 l0_3) else (if a0_0 > 4 then (impl_AutomatonValid.j0 k true a0_0 l0_1 l0_2 l0_3) else (if (l0_3.length : Int) > 24 then (impl_AutomatonValid.j0 k true a0_0 l0_1 l0_2 l0_3) else ((impl_statesOk.f k l0_1 a0_0).bind fun t199 => (if t199 = true then ((impl_statesOk.f k l0_2 a0_0).bind fun t200 => (impl_AutomatonValid.j0 k (!t200) a0_0 l0_1 l0_2 l0_3)) else (impl_AutomatonValid.j0 k true a0_0 l0_1 l0_2 l0_3)))))) = some r:=h
 clear h
 have HC2:=Aside0.mk H
 clear H
 go_enter Try.func72,Try.ntmps72
 go_upto_region 1 with (first|((with_reducible refine gate_dst (N:=1) rfl ?_);(try (refine gate_guard (by rfl) ?_;dsimp only));refine box_event ?hg (N:=1) ?hd (cs:=#[.int .i64 a0_0,.slice A0_1 l0_1.length c0_1,.slice A0_2 l0_2.length c0_2,.slice A0_3 l0_3.length c0_3]) (t:=33) ?hr ?_;(case hd => rfl);(case hg => rfl);(case hr => first|(go_simp;done)|(go_simp;rfl));intro gb198 hg w3 hbox hb;have n0_:=Aside0.mk (below_step (be0_ HB.out) hb);have n1_:=Aside0.mk (hbox);have n2_:=Aside0.mk ((by rw [hg];exact (below_size (be0_ HB.out)) : w.heap.size ≤ gb198));have n3_:=Aside0.mk ((by rw [hg];exact (below_size (be0_ HB.out)) : w.heap.size ≤ gb198));clear HB;have HB:=n0_;have BK198:=n1_;have GW198:=n2_;have GE198:=n3_;clear n0_ n1_ n2_ n3_;clear hb hbox hg))
 (try simp only [Act.put,List.setIfInBounds_toArray,List.set_cons_zero,List.set_cons_succ])
 go_cut [34] (fun v34 wc => ∃ (kq : Nat) (x34_1 : Bool),v34 = .bool x34_1 ∧ Aside0 (impl_AutomatonValid.j0 kq x34_1 a0_0 l0_1 l0_2 l0_3 = some r) ∧ Aside0 (kq ≤ k) ∧ Aside0 (wc.heap[gb198]? = some (.cells #[.int .i64 a0_0,(.slice A0_1 l0_1.length c0_1),(.slice A0_2 l0_2.length c0_2),(.slice A0_3 l0_3.length c0_3)] 33 (0,0))) ∧ Aside0 (Below w.heap.size w wc))
 case first =>
  have H:=HC2.out
  clear HC2
  by_cases c4 : a0_0 < 1
  ·rw [if_pos c4] at H
   have c4b0 : decide (a0_0 < 1) = true:=decide_eq_true c4
   clear c4
   (first|rw [c4b0]|(simp only [i64_w,i32_w];rw [c4b0])|skip)
   have H':=Aside0.mk H
   clear H
   have hcz5_0 : w3.cell? ⟨gb198,0,none⟩ = some (.int .i64 a0_0):=(blk_cell BK198.out 0).trans rfl
   have hcz5_1 : w3.cell? ⟨gb198,1,none⟩ = some (.slice A0_1 l0_1.length c0_1):=(blk_cell BK198.out 1).trans rfl
   have hcz5_2 : w3.cell? ⟨gb198,2,none⟩ = some (.slice A0_2 l0_2.length c0_2):=(blk_cell BK198.out 2).trans rfl
   have hcz5_3 : w3.cell? ⟨gb198,3,none⟩ = some (.slice A0_3 l0_3.length c0_3):=(blk_cell BK198.out 3).trans rfl
   have hfz5_0:=blk_frozen BK198.out 0
   have hfz5_1:=blk_frozen BK198.out 1
   have hfz5_2:=blk_frozen BK198.out 2
   have hfz5_3:=blk_frozen BK198.out 3
   go_wp2
   go_meet
   case rel => exact ⟨_,(true),(by first|rfl|(simp;done)|(simp [*];done)),H',⟨by first|omega|exact Nat.le_refl _⟩,⟨pe_ BK198.out⟩,⟨be1_ HB.out GE198.out⟩⟩
  ·rw [if_neg c4] at H
   have c4b0 : decide (a0_0 < 1) = false:=decide_eq_false c4
   clear c4
   (first|rw [c4b0]|(simp only [i64_w,i32_w];rw [c4b0])|skip)
   by_cases c6 : a0_0 > 4
   ·rw [if_pos c6] at H
    have c6b0 : decide (4 < a0_0) = true:=decide_eq_true c6
    clear c6
    have H':=Aside0.mk H
    clear H
    have hcz7_0 : w3.cell? ⟨gb198,0,none⟩ = some (.int .i64 a0_0):=(blk_cell BK198.out 0).trans rfl
    have hcz7_1 : w3.cell? ⟨gb198,1,none⟩ = some (.slice A0_1 l0_1.length c0_1):=(blk_cell BK198.out 1).trans rfl
    have hcz7_2 : w3.cell? ⟨gb198,2,none⟩ = some (.slice A0_2 l0_2.length c0_2):=(blk_cell BK198.out 2).trans rfl
    have hcz7_3 : w3.cell? ⟨gb198,3,none⟩ = some (.slice A0_3 l0_3.length c0_3):=(blk_cell BK198.out 3).trans rfl
    have hfz7_0:=blk_frozen BK198.out 0
    have hfz7_1:=blk_frozen BK198.out 1
    have hfz7_2:=blk_frozen BK198.out 2
    have hfz7_3:=blk_frozen BK198.out 3
    go_wp2
    go_meet
    case rel => exact ⟨_,(true),(by first|rfl|(simp;done)|(simp [*];done)),H',⟨by first|omega|exact Nat.le_refl _⟩,⟨pe_ BK198.out⟩,⟨be1_ HB.out GE198.out⟩⟩
   ·rw [if_neg c6] at H
    have c6b0 : decide (4 < a0_0) = false:=decide_eq_false c6
    clear c6
    by_cases c8 : (l0_3.length : Int) > 24
    ·rw [if_pos c8] at H
     have c8b0 : decide (24 < (l0_3.length : Int)) = true:=decide_eq_true c8
     have c8b1 : decide (24 < l0_3.length) = true:=decide_eq_true (by omega)
     clear c8
     have H':=Aside0.mk H
     clear H
     have hcz9_0 : w3.cell? ⟨gb198,0,none⟩ = some (.int .i64 a0_0):=(blk_cell BK198.out 0).trans rfl
     have hcz9_1 : w3.cell? ⟨gb198,1,none⟩ = some (.slice A0_1 l0_1.length c0_1):=(blk_cell BK198.out 1).trans rfl
     have hcz9_2 : w3.cell? ⟨gb198,2,none⟩ = some (.slice A0_2 l0_2.length c0_2):=(blk_cell BK198.out 2).trans rfl
     have hcz9_3 : w3.cell? ⟨gb198,3,none⟩ = some (.slice A0_3 l0_3.length c0_3):=(blk_cell BK198.out 3).trans rfl
     have hfz9_0:=blk_frozen BK198.out 0
     have hfz9_1:=blk_frozen BK198.out 1
     have hfz9_2:=blk_frozen BK198.out 2
     have hfz9_3:=blk_frozen BK198.out 3
     go_wp2
     go_meet
     case rel => exact ⟨_,(true),(by first|rfl|(simp;done)|(simp [*];done)),H',⟨by first|omega|exact Nat.le_refl _⟩,⟨pe_ BK198.out⟩,⟨be1_ HB.out GE198.out⟩⟩
    ·rw [if_neg c8] at H
     have c8b0 : decide (24 < (l0_3.length : Int)) = false:=decide_eq_false c8
     have c8b1 : decide (24 < l0_3.length) = false:=decide_eq_false (by omega)
     clear c8
     replace H:=Option.bind_eq_some_iff.mp H
     obtain ⟨t199,A100,H⟩:=H
     replace H : (if t199 = true then ((impl_statesOk.f k l0_2 a0_0).bind fun t200 => (impl_AutomatonValid.j0 k (!t200) a0_0 l0_1 l0_2 l0_3)) else (impl_AutomatonValid.j0 k true a0_0 l0_1 l0_2 l0_3)) = some r:=H
     have A10:=Aside0.mk A100
     clear A100
     by_cases c11 : t199 = true
     ·subst c11
      have H1 : ((impl_statesOk.f k l0_2 a0_0).bind fun t200 => (impl_AutomatonValid.j0 k (!t200) a0_0 l0_1 l0_2 l0_3)) = some r:=by rw [if_pos rfl] at H;exact H
      clear H
      have H:=H1
      clear H1
      replace H:=Option.bind_eq_some_iff.mp H
      obtain ⟨t200,A120,H⟩:=H
      replace H : (impl_AutomatonValid.j0 k (!t200) a0_0 l0_1 l0_2 l0_3) = some r:=H
      have A12:=Aside0.mk A120
      clear A120
      have H':=Aside0.mk H
      clear H
      have hcz13_0 : w3.cell? ⟨gb198,0,none⟩ = some (.int .i64 a0_0):=(blk_cell BK198.out 0).trans rfl
      have hcz13_1 : w3.cell? ⟨gb198,1,none⟩ = some (.slice A0_1 l0_1.length c0_1):=(blk_cell BK198.out 1).trans rfl
      have hcz13_2 : w3.cell? ⟨gb198,2,none⟩ = some (.slice A0_2 l0_2.length c0_2):=(blk_cell BK198.out 2).trans rfl
      have hcz13_3 : w3.cell? ⟨gb198,3,none⟩ = some (.slice A0_3 l0_3.length c0_3):=(blk_cell BK198.out 3).trans rfl
      have hfz13_0:=blk_frozen BK198.out 0
      have hfz13_1:=blk_frozen BK198.out 1
      have hfz13_2:=blk_frozen BK198.out 2
      have hfz13_3:=blk_frozen BK198.out 3
      go_wp2_with (first|(go_at_call 124;(with_reducible refine (impl_statesOk.calls k _ _ l0_1 a0_0 true _ ?side1 ?side2 A10.out).mono ?_);(case side1 => repeat (first|exact (Kd.C_below HR0_1.out HB.out)|(with_reducible refine Kd.C_alloc ?_ _)|(with_reducible refine Kd.C_drewN ?_ _)|(with_reducible refine Kd.C_drew ?_)));(case side2 => exact HC0_1.out);rintro e w' ⟨rfl,⟨nd,rfl⟩⟩)|(go_at_call 124;(with_reducible refine (impl_statesOk.calls k _ _ l0_2 a0_0 t200 _ ?side1 ?side2 A12.out).mono ?_);(case side1 => repeat (first|exact (Kd.C_below HR0_2.out (be1_ HB.out GE198.out))|(with_reducible refine Kd.C_alloc ?_ _)|(with_reducible refine Kd.C_drewN ?_ _)|(with_reducible refine Kd.C_drew ?_)));(case side2 => exact HC0_2.out);rintro e w' ⟨rfl,⟨nd,rfl⟩⟩))
      go_meet
      case rel => exact ⟨_,(!t200),(by first|rfl|(simp;done)|(simp [*];done)),H',⟨by first|omega|exact Nat.le_refl _⟩,⟨pe_ BK198.out⟩,⟨be1_ HB.out GE198.out⟩⟩
     ·replace c11:=Bool.eq_false_iff.mpr c11
      subst c11
      have H1 : (impl_AutomatonValid.j0 k true a0_0 l0_1 l0_2 l0_3) = some r:=by rw [if_neg (show ¬ (false = true) by decide)] at H;exact H
      clear H
      have H:=H1
      clear H1
      have H':=Aside0.mk H
      clear H
      have hcz14_0 : w3.cell? ⟨gb198,0,none⟩ = some (.int .i64 a0_0):=(blk_cell BK198.out 0).trans rfl
      have hcz14_1 : w3.cell? ⟨gb198,1,none⟩ = some (.slice A0_1 l0_1.length c0_1):=(blk_cell BK198.out 1).trans rfl
      have hcz14_2 : w3.cell? ⟨gb198,2,none⟩ = some (.slice A0_2 l0_2.length c0_2):=(blk_cell BK198.out 2).trans rfl
      have hcz14_3 : w3.cell? ⟨gb198,3,none⟩ = some (.slice A0_3 l0_3.length c0_3):=(blk_cell BK198.out 3).trans rfl
      have hfz14_0:=blk_frozen BK198.out 0
      have hfz14_1:=blk_frozen BK198.out 1
      have hfz14_2:=blk_frozen BK198.out 2
      have hfz14_3:=blk_frozen BK198.out 3
      go_wp2_with (first|(go_at_call 124;(with_reducible refine (impl_statesOk.calls k _ _ l0_1 a0_0 false _ ?side1 ?side2 A10.out).mono ?_);(case side1 => repeat (first|exact (Kd.C_below HR0_1.out HB.out)|(with_reducible refine Kd.C_alloc ?_ _)|(with_reducible refine Kd.C_drewN ?_ _)|(with_reducible refine Kd.C_drew ?_)));(case side2 => exact HC0_1.out);rintro e w' ⟨rfl,⟨nd,rfl⟩⟩))
      go_meet
      case rel => exact ⟨_,(true),(by first|rfl|(simp;done)|(simp [*];done)),H',⟨by first|omega|exact Nat.le_refl _⟩,⟨pe_ BK198.out⟩,⟨be1_ HB.out GE198.out⟩⟩
 case rest =>
  clear HC2
  try clear c1
  try clear p2
  try clear c4
  try clear c4b0
  try clear c6
  try clear c6b0
  try clear c7
  try clear c8
  try clear c8b0
  try clear c8b1
  try clear c11
  try clear hcz13_0
  try clear hcz13_1
  try clear hcz13_2
  try clear hcz13_3
  try clear hcz14_0
  try clear hcz14_1
  try clear hcz14_2
  try clear hcz14_3
  try clear hcz5_0
  try clear hcz5_1
  try clear hcz5_2
  try clear hcz5_3
  try clear hcz7_0
  try clear hcz7_1
  try clear hcz7_2
  try clear hcz7_3
  try clear hcz9_0
  try clear hcz9_1
  try clear hcz9_2
  try clear hcz9_3
  try clear hfz13_0
  try clear hfz13_1
  try clear hfz13_2
  try clear hfz13_3
  try clear hfz14_0
  try clear hfz14_1
  try clear hfz14_2
  try clear hfz14_3
  try clear hfz5_0
  try clear hfz5_1
  try clear hfz5_2
  try clear hfz5_3
  try clear hfz7_0
  try clear hfz7_1
  try clear hfz7_2
  try clear hfz7_3
  try clear hfz9_0
  try clear hfz9_1
  try clear hfz9_2
  try clear hfz9_3
  obtain ⟨kq,x34_1,rfl,HA,HJ1,BK198,HB⟩:=hcut
  cases kq with
  | zero => exact absurd HA.out (by simp [impl_AutomatonValid.j0])
  | succ kj1 =>
   have H:=HA.out
   clear HA
   simp only [impl_AutomatonValid.j0] at H
   by_cases c15 : x34_1 = true
   ·subst c15
    have H1 : (some false) = some r:=by rw [if_pos rfl] at H;exact H
    clear H
    have H:=H1
    clear H1
    obtain rfl:=Option.some.inj H
    go_wp2
    go_ret
    exact ⟨by first|rfl|(simp [errW_none,errW_some] <;> rfl)|(simp [*,errW_none,errW_some] <;> rfl),be1_ HB.out GE198.out⟩
   ·replace c15:=Bool.eq_false_iff.mpr c15
    subst c15
    have H1 : (impl_AutomatonValid.l0 kj1 l0_3 (l0_3.length : Int) 0 a0_0 l0_1 l0_2 l0_3) = some r:=by rw [if_neg (show ¬ (false = true) by decide)] at H;exact H
    clear H
    have H:=H1
    clear H1
    have H':=Aside0.mk H
    clear H
    have hcz16_0 : wc.cell? ⟨gb198,0,none⟩ = some (.int .i64 a0_0):=(blk_cell BK198.out 0).trans rfl
    have hcz16_1 : wc.cell? ⟨gb198,1,none⟩ = some (.slice A0_1 l0_1.length c0_1):=(blk_cell BK198.out 1).trans rfl
    have hcz16_2 : wc.cell? ⟨gb198,2,none⟩ = some (.slice A0_2 l0_2.length c0_2):=(blk_cell BK198.out 2).trans rfl
    have hcz16_3 : wc.cell? ⟨gb198,3,none⟩ = some (.slice A0_3 l0_3.length c0_3):=(blk_cell BK198.out 3).trans rfl
    have hfz16_0:=blk_frozen BK198.out 0
    have hfz16_1:=blk_frozen BK198.out 1
    have hfz16_2:=blk_frozen BK198.out 2
    have hfz16_3:=blk_frozen BK198.out 3
    go_wp2
    go_loopg [38] kj1 (fun kq v38 w' => ∃ (x38_2 : Int),v38 = .int .i64 x38_2 ∧ Aside0 (impl_AutomatonValid.l0 kq l0_3 (l0_3.length : Int) x38_2 a0_0 l0_1 l0_2 l0_3 = some r) ∧ Aside0 (kq ≤ kj1) ∧ Aside0 (w'.heap[gb198]? = some (.cells #[.int .i64 a0_0,(.slice A0_1 l0_1.length c0_1),(.slice A0_2 l0_2.length c0_2),(.slice A0_3 l0_3.length c0_3)] 33 (0,0))) ∧ Aside0 (Below w.heap.size w w'))
    case atStart => exact ⟨(0),(by first|rfl|(simp;done)|(simp [*];done)),H',⟨Nat.le_refl _⟩,⟨pe_ BK198.out⟩,⟨be1_ HB.out GE198.out⟩⟩
    case round =>
     clear H'
     try clear c1
     try clear p2
     try clear c4
     try clear c4b0
     try clear c6
     try clear c6b0
     try clear c7
     try clear c8
     try clear c8b0
     try clear c8b1
     try clear c11
     try clear c15
     try clear hcz13_0
     try clear hcz13_1
     try clear hcz13_2
     try clear hcz13_3
     try clear hcz14_0
     try clear hcz14_1
     try clear hcz14_2
     try clear hcz14_3
     try clear hcz16_0
     try clear hcz16_1
     try clear hcz16_2
     try clear hcz16_3
     try clear hcz5_0
     try clear hcz5_1
     try clear hcz5_2
     try clear hcz5_3
     try clear hcz7_0
     try clear hcz7_1
     try clear hcz7_2
     try clear hcz7_3
     try clear hcz9_0
     try clear hcz9_1
     try clear hcz9_2
     try clear hcz9_3
     try clear hfz13_0
     try clear hfz13_1
     try clear hfz13_2
     try clear hfz13_3
     try clear hfz14_0
     try clear hfz14_1
     try clear hfz14_2
     try clear hfz14_3
     try clear hfz16_0
     try clear hfz16_1
     try clear hfz16_2
     try clear hfz16_3
     try clear hfz5_0
     try clear hfz5_1
     try clear hfz5_2
     try clear hfz5_3
     try clear hfz7_0
     try clear hfz7_1
     try clear hfz7_2
     try clear hfz7_3
     try clear hfz9_0
     try clear hfz9_1
     try clear hfz9_2
     try clear hfz9_3
     try clear p2
     obtain ⟨x38_2,rfl,HA,HK2,BK198,HB⟩:=hrel
     cases gk with
     | zero => exact absurd HA.out (by simp [impl_AutomatonValid.l0])
     | succ k2 =>
      have H:=HA.out
      clear HA
      simp only [impl_AutomatonValid.l0] at H
      by_cases c17 : x38_2 < (l0_3.length : Int)
      ·rw [if_pos c17] at H
       have c17b0 : decide (x38_2 < (l0_3.length : Int)) = true:=decide_eq_true c17
       clear c17
       by_cases c18 : 0 ≤ x38_2
       ·rw [if_pos c18] at H
        have c18b0 : decide (0 ≤ x38_2) = true:=decide_eq_true c18
        clear c18
        by_cases c19 : x38_2 < (l0_3.length : Int)
        ·rw [if_pos c19] at H
         have c19b0 : decide (x38_2 < (l0_3.length : Int)) = true:=decide_eq_true c19
         clear c19
         by_cases c20 : ((rd_T92 l0_3 x38_2).f0) < 0
         ·rw [if_pos c20] at H
          have c20b0 : decide (((rd_T92 l0_3 x38_2).f0) < 0) = true:=decide_eq_true c20
          clear c20
          obtain rfl:=Option.some.inj H
          have p201 : 0 ≤ (x38_2 : Int):=of_decide_eq_true (by first|(with_reducible assumption)|assumption)
          have q201 : x38_2 < (l0_3.length : Int):=of_decide_eq_true (by first|(with_reducible assumption)|assumption)
          obtain ⟨ad201,e201,hx201_0,hx201_1,hx201_2,hx201_3⟩:=at_T92 HR0_3.out x38_2 p201 q201
          cases e201
          replace hx201_0:=(HB.out.cell (World.block_lt_of_cell? w _ hx201_0)).trans hx201_0
          replace hx201_1:=(HB.out.cell (World.block_lt_of_cell? w _ hx201_1)).trans hx201_1
          replace hx201_2:=(HB.out.cell (World.block_lt_of_cell? w _ hx201_2)).trans hx201_2
          replace hx201_3:=(HB.out.cell (World.block_lt_of_cell? w _ hx201_3)).trans hx201_3
          replace p201:=eq_true p201
          replace q201:=eq_true q201
          try go_wp2_with (first|((with_reducible refine gate_dst (N:=4) rfl ?_);(try (refine gate_guard (by rfl) ?_;dsimp only));refine box_event ?hg (N:=4) ?hd (cs:=#[.int .i64 0,.string (⟨#[]⟩ : ByteArray),.int .i64 0,.int .i64 0]) (t:=92) ?hr ?_;(case hd => rfl);(case hg => rfl);(case hr => first|(go_simp;done)|(go_simp;rfl));intro gb202 hg w21 hbox hb;have n0_:=Aside0.mk (blk_below (g:=gb198) (o:=.cells #[.int .i64 a0_0,.slice A0_1 l0_1.length c0_1,.slice A0_2 l0_2.length c0_2,.slice (some ad201) l0_3.length c0_3] 33 (0,0)) (pe_ BK198.out) hb);have n1_:=Aside0.mk (below_step (be1_ HB.out GE198.out) hb);have n2_:=Aside0.mk (hbox);have n3_:=Aside0.mk ((by rw [hg];exact (below_size (be1_ HB.out GE198.out)) : w.heap.size ≤ gb202));have n4_:=Aside0.mk ((by rw [hg];exact (below_size (be1_ HB.out GE198.out)) : w.heap.size ≤ gb202));have n5_:=Aside0.mk ((by rw [hg];exact Nat.ne_of_lt (blk_lt (g:=gb198) (o:=.cells #[.int .i64 a0_0,.slice A0_1 l0_1.length c0_1,.slice A0_2 l0_2.length c0_2,.slice (some ad201) l0_3.length c0_3] 33 (0,0)) (pe_ BK198.out)) : gb198 ≠ gb202));have n6_:=Aside0.mk ((by rw [hg];exact Nat.ne_of_gt (blk_lt (g:=gb198) (o:=.cells #[.int .i64 a0_0,.slice A0_1 l0_1.length c0_1,.slice A0_2 l0_2.length c0_2,.slice (some ad201) l0_3.length c0_3] 33 (0,0)) (pe_ BK198.out)) : gb202 ≠ gb198));clear BK198;clear HB;have BK198:=n0_;have HB:=n1_;have BK202:=n2_;have GW202:=n3_;have GE202:=n4_;have NB198_202:=n5_;have NB202_198:=n6_;clear n0_ n1_ n2_ n3_ n4_ n5_ n6_;clear hb hbox hg;have hnb22:=NB202_198.out;have hnc22:=NB198_202.out;have hcz23_0 : w21.cell? ⟨gb202,0,none⟩ = some (.int .i64 0):=(blk_cell BK202.out 0).trans rfl;have hcz23_1 : w21.cell? ⟨gb202,1,none⟩ = some (.string (⟨#[]⟩ : ByteArray)):=(blk_cell BK202.out 1).trans rfl;have hcz23_2 : w21.cell? ⟨gb202,2,none⟩ = some (.int .i64 0):=(blk_cell BK202.out 2).trans rfl;have hcz23_3 : w21.cell? ⟨gb202,3,none⟩ = some (.int .i64 0):=(blk_cell BK202.out 3).trans rfl;have hfz23_0:=blk_frozen BK202.out 0;have hfz23_1:=blk_frozen BK202.out 1;have hfz23_2:=blk_frozen BK202.out 2;have hfz23_3:=blk_frozen BK202.out 3))
          have n0_ : Aside0 (((((w21.setCell ⟨gb202,0,none⟩ (.int .i64 ((rd_T92 l0_3 x38_2).f0))).setCell ⟨gb202,1,none⟩ (.string ((rd_T92 l0_3 x38_2).f1))).setCell ⟨gb202,2,none⟩ (.int .i64 ((rd_T92 l0_3 x38_2).f2))).setCell ⟨gb202,3,none⟩ (.int .i64 ((rd_T92 l0_3 x38_2).f3))).heap[gb198]? = some (.cells #[.int .i64 a0_0,.slice A0_1 l0_1.length c0_1,.slice A0_2 l0_2.length c0_2,.slice (some ad201) l0_3.length c0_3] 33 (0,0))):=⟨by refine pe_ ?_;refine blk_far ?_ NB198_202.out _;refine pe_ ?_;refine blk_far ?_ NB198_202.out _;refine pe_ ?_;refine blk_far ?_ NB198_202.out _;refine pe_ ?_;refine blk_far ?_ NB198_202.out _;refine pe_ ?_;exact BK198.out⟩
          have n1_ : Aside0 (((((w21.setCell ⟨gb202,0,none⟩ (.int .i64 ((rd_T92 l0_3 x38_2).f0))).setCell ⟨gb202,1,none⟩ (.string ((rd_T92 l0_3 x38_2).f1))).setCell ⟨gb202,2,none⟩ (.int .i64 ((rd_T92 l0_3 x38_2).f2))).setCell ⟨gb202,3,none⟩ (.int .i64 ((rd_T92 l0_3 x38_2).f3))).heap[gb202]? = some (.cells #[.int .i64 ((rd_T92 l0_3 x38_2).f0),.string ((rd_T92 l0_3 x38_2).f1),.int .i64 ((rd_T92 l0_3 x38_2).f2),.int .i64 ((rd_T92 l0_3 x38_2).f3)] 92 (0,0))):=⟨by refine pe_ ?_;refine blk_put (cs:=#[.int .i64 ((rd_T92 l0_3 x38_2).f0),.string ((rd_T92 l0_3 x38_2).f1),.int .i64 ((rd_T92 l0_3 x38_2).f2),.int .i64 0]) ?_ 3 _ rfl;refine pe_ ?_;refine blk_put (cs:=#[.int .i64 ((rd_T92 l0_3 x38_2).f0),.string ((rd_T92 l0_3 x38_2).f1),.int .i64 0,.int .i64 0]) ?_ 2 _ rfl;refine pe_ ?_;refine blk_put (cs:=#[.int .i64 ((rd_T92 l0_3 x38_2).f0),.string (⟨#[]⟩ : ByteArray),.int .i64 0,.int .i64 0]) ?_ 1 _ rfl;refine pe_ ?_;refine blk_put (cs:=#[.int .i64 0,.string (⟨#[]⟩ : ByteArray),.int .i64 0,.int .i64 0]) ?_ 0 _ rfl;refine pe_ ?_;exact BK202.out⟩
          have n2_ : Aside0 (Below w.heap.size w ((((w21.setCell ⟨gb202,0,none⟩ (.int .i64 ((rd_T92 l0_3 x38_2).f0))).setCell ⟨gb202,1,none⟩ (.string ((rd_T92 l0_3 x38_2).f1))).setCell ⟨gb202,2,none⟩ (.int .i64 ((rd_T92 l0_3 x38_2).f2))).setCell ⟨gb202,3,none⟩ (.int .i64 ((rd_T92 l0_3 x38_2).f3)))):=⟨be2_ HB.out GE198.out GE202.out⟩
          (try clear BK198)
          (try clear BK202)
          (try clear HB)
          generalize ((((w21.setCell ⟨gb202,0,none⟩ (.int .i64 ((rd_T92 l0_3 x38_2).f0))).setCell ⟨gb202,1,none⟩ (.string ((rd_T92 l0_3 x38_2).f1))).setCell ⟨gb202,2,none⟩ (.int .i64 ((rd_T92 l0_3 x38_2).f2))).setCell ⟨gb202,3,none⟩ (.int .i64 ((rd_T92 l0_3 x38_2).f3))) = w24 at n0_ n1_ n2_ ⊢
          have BK198:=n0_
          have BK202:=n1_
          have HB:=n2_
          clear n0_ n1_ n2_
          have n0_:=Aside0.mk (blk_drew BK198.out)
          have n1_:=Aside0.mk (blk_drew BK202.out)
          have n2_:=Aside0.mk (below_drew1 HB.out)
          clear BK198
          clear BK202
          clear HB
          have BK198:=n0_
          have BK202:=n1_
          have HB:=n2_
          clear n0_ n1_ n2_
          refine start_ (n:=57) (S:=fun w' => w'.cell? ⟨gb202,0,none⟩ = some (.int .i64 ((rd_T92 l0_3 x38_2).f0)) ∧ w'.cell? ⟨gb202,1,none⟩ = some (.string ((rd_T92 l0_3 x38_2).f1)) ∧ w'.cell? ⟨gb202,2,none⟩ = some (.int .i64 ((rd_T92 l0_3 x38_2).f2)) ∧ w'.cell? ⟨gb202,3,none⟩ = some (.int .i64 ((rd_T92 l0_3 x38_2).f3))) (ds:=[]) #[false,false,false,false,false,false,false,false,false,false,false,false,false,false,false,false,false,false,false,false,false,false,false,false,false,false,false,false,false,false,false,false,false,false,false,false,false,false,false,false,false,false,false,false,false,false,false,false,false,false,false,false,false,false,false,false,false] (by kernel_rfl) rfl rfl ⟨(blk_cell BK202.out 0).trans rfl,(blk_cell BK202.out 1).trans rfl,(blk_cell BK202.out 2).trans rfl,(blk_cell BK202.out 3).trans rfl⟩ (fun hHeld => ?_);refine with_tabW impl_AutomatonValid.tab6 impl_AutomatonValid.bits6 (fun HT_ HW_ => ?_)
          generalize w24.drew = w25 at BK198 BK202 HB hHeld ⊢
          refine stW_ [.p 0 43,.t 1 44,.p 2 45,.p 3 46,.u 4 47,.u 5 48,.u 6 49,.u 7 50,.u 8 51,.p 9 52,.p 10 53,.u 11 54,.u 12 55,.u 13 56,.p 14 57,.p 15 58,.u 16 59,.u 17 60,.u 18 61,.u 19 62,.u 20 63,.p 21 64,.p 22 65,.u 23 66,.u 24 67,.u 25 68,.u 26 69,.u 27 70,.u 28 71,.u 29 72,.u 30 73,.p 31 74,.p 32 75,.u 33 76,.u 34 77,.u 35 78,.p 36 79,.p 37 80,.u 38 81,.u 39 82,.u 40 83,.p 41 84,.p 42 85,.u 43 86,.u 44 87,.u 45 88,.u 46 89,.u 47 90,.u 48 91,.u 49 92,.u 50 93,.u 51 94,.u 52 95,.u 53 96,.u 54 97,.u 55 98,.p 56 99] 57 144115188075855871 57 HT_.out HW_.out hHeld (a':=?_) ?_ rfl (by kernel_rfl) (fun _ _ _ _ h => h) ?_
          rotate_left
          ·repeat (first|exact Steps.nil|(refine Steps.u (oi:=?_) (a1:=?_) ?_ ?_ ?_ ?_ ?_;rotate_left 1;rfl;rfl;exact Or.inr ⟨by rfl,rfl⟩;rotate_left;(simp only [Act.put,List.setIfInBounds_toArray,List.set_cons_zero,List.set_cons_succ,i64_w,i32_w];rfl))|(refine Steps.p (oi:=?_) (v:=?_) (a1:=?_) ?_ ?_ ?_ ?_ ?_;rotate_left 2;rfl;rfl;(refine Or.inl ⟨by rfl,?_⟩;intro w';go_simp;with_reducible rfl);rotate_left;(simp only [Act.put,List.setIfInBounds_toArray,List.set_cons_zero,List.set_cons_succ,i64_w,i32_w];rfl))|(refine Steps.t (oi:=?_) (v:=?_) (a1:=?_) ?_ ?_ ?_ ?_ ?_;rotate_left 2;rfl;rfl;(refine Or.inl ⟨by rfl,?_⟩;rintro w' ⟨s0,s1,s2,s3⟩;go_simp;with_reducible rfl);rotate_left;(simp only [Act.put,List.setIfInBounds_toArray,List.set_cons_zero,List.set_cons_succ,i64_w,i32_w];rfl)))
          refine done_ (done_of HT_.out (by kernel_rfl)) ?_
          try go_wp2
          go_ret
          exact ⟨by first|rfl|(simp [errW_none,errW_some] <;> rfl)|(simp [*,errW_none,errW_some] <;> rfl),be2_ HB.out GE198.out GE202.out⟩
         ·rw [if_neg c20] at H
          have c20b0 : decide (((rd_T92 l0_3 x38_2).f0) < 0) = false:=decide_eq_false c20
          clear c20
          by_cases c26 : ((rd_T92 l0_3 x38_2).f0) ≥ a0_0
          ·rw [if_pos c26] at H
           have c26b0 : decide (a0_0 ≤ ((rd_T92 l0_3 x38_2).f0)) = true:=decide_eq_true c26
           clear c26
           obtain rfl:=Option.some.inj H
           have p201 : 0 ≤ (x38_2 : Int):=of_decide_eq_true (by first|(with_reducible assumption)|assumption)
           have q201 : x38_2 < (l0_3.length : Int):=of_decide_eq_true (by first|(with_reducible assumption)|assumption)
           obtain ⟨ad201,e201,hx201_0,hx201_1,hx201_2,hx201_3⟩:=at_T92 HR0_3.out x38_2 p201 q201
           cases e201
           replace hx201_0:=(HB.out.cell (World.block_lt_of_cell? w _ hx201_0)).trans hx201_0
           replace hx201_1:=(HB.out.cell (World.block_lt_of_cell? w _ hx201_1)).trans hx201_1
           replace hx201_2:=(HB.out.cell (World.block_lt_of_cell? w _ hx201_2)).trans hx201_2
           replace hx201_3:=(HB.out.cell (World.block_lt_of_cell? w _ hx201_3)).trans hx201_3
           replace p201:=eq_true p201
           replace q201:=eq_true q201
           try go_wp2_with (first|((with_reducible refine gate_dst (N:=4) rfl ?_);(try (refine gate_guard (by rfl) ?_;dsimp only));refine box_event ?hg (N:=4) ?hd (cs:=#[.int .i64 0,.string (⟨#[]⟩ : ByteArray),.int .i64 0,.int .i64 0]) (t:=92) ?hr ?_;(case hd => rfl);(case hg => rfl);(case hr => first|(go_simp;done)|(go_simp;rfl));intro gb202 hg w27 hbox hb;have n0_:=Aside0.mk (blk_below (g:=gb198) (o:=.cells #[.int .i64 a0_0,.slice A0_1 l0_1.length c0_1,.slice A0_2 l0_2.length c0_2,.slice (some ad201) l0_3.length c0_3] 33 (0,0)) (pe_ BK198.out) hb);have n1_:=Aside0.mk (below_step (be1_ HB.out GE198.out) hb);have n2_:=Aside0.mk (hbox);have n3_:=Aside0.mk ((by rw [hg];exact (below_size (be1_ HB.out GE198.out)) : w.heap.size ≤ gb202));have n4_:=Aside0.mk ((by rw [hg];exact (below_size (be1_ HB.out GE198.out)) : w.heap.size ≤ gb202));have n5_:=Aside0.mk ((by rw [hg];exact Nat.ne_of_lt (blk_lt (g:=gb198) (o:=.cells #[.int .i64 a0_0,.slice A0_1 l0_1.length c0_1,.slice A0_2 l0_2.length c0_2,.slice (some ad201) l0_3.length c0_3] 33 (0,0)) (pe_ BK198.out)) : gb198 ≠ gb202));have n6_:=Aside0.mk ((by rw [hg];exact Nat.ne_of_gt (blk_lt (g:=gb198) (o:=.cells #[.int .i64 a0_0,.slice A0_1 l0_1.length c0_1,.slice A0_2 l0_2.length c0_2,.slice (some ad201) l0_3.length c0_3] 33 (0,0)) (pe_ BK198.out)) : gb202 ≠ gb198));clear BK198;clear HB;have BK198:=n0_;have HB:=n1_;have BK202:=n2_;have GW202:=n3_;have GE202:=n4_;have NB198_202:=n5_;have NB202_198:=n6_;clear n0_ n1_ n2_ n3_ n4_ n5_ n6_;clear hb hbox hg;have hnb28:=NB202_198.out;have hnc28:=NB198_202.out;have hcz29_0 : w27.cell? ⟨gb202,0,none⟩ = some (.int .i64 0):=(blk_cell BK202.out 0).trans rfl;have hcz29_1 : w27.cell? ⟨gb202,1,none⟩ = some (.string (⟨#[]⟩ : ByteArray)):=(blk_cell BK202.out 1).trans rfl;have hcz29_2 : w27.cell? ⟨gb202,2,none⟩ = some (.int .i64 0):=(blk_cell BK202.out 2).trans rfl;have hcz29_3 : w27.cell? ⟨gb202,3,none⟩ = some (.int .i64 0):=(blk_cell BK202.out 3).trans rfl;have hfz29_0:=blk_frozen BK202.out 0;have hfz29_1:=blk_frozen BK202.out 1;have hfz29_2:=blk_frozen BK202.out 2;have hfz29_3:=blk_frozen BK202.out 3))
           have n0_ : Aside0 (((((w27.setCell ⟨gb202,0,none⟩ (.int .i64 ((rd_T92 l0_3 x38_2).f0))).setCell ⟨gb202,1,none⟩ (.string ((rd_T92 l0_3 x38_2).f1))).setCell ⟨gb202,2,none⟩ (.int .i64 ((rd_T92 l0_3 x38_2).f2))).setCell ⟨gb202,3,none⟩ (.int .i64 ((rd_T92 l0_3 x38_2).f3))).heap[gb198]? = some (.cells #[.int .i64 a0_0,.slice A0_1 l0_1.length c0_1,.slice A0_2 l0_2.length c0_2,.slice (some ad201) l0_3.length c0_3] 33 (0,0))):=⟨by refine pe_ ?_;refine blk_far ?_ NB198_202.out _;refine pe_ ?_;refine blk_far ?_ NB198_202.out _;refine pe_ ?_;refine blk_far ?_ NB198_202.out _;refine pe_ ?_;refine blk_far ?_ NB198_202.out _;refine pe_ ?_;exact BK198.out⟩
           have n1_ : Aside0 (((((w27.setCell ⟨gb202,0,none⟩ (.int .i64 ((rd_T92 l0_3 x38_2).f0))).setCell ⟨gb202,1,none⟩ (.string ((rd_T92 l0_3 x38_2).f1))).setCell ⟨gb202,2,none⟩ (.int .i64 ((rd_T92 l0_3 x38_2).f2))).setCell ⟨gb202,3,none⟩ (.int .i64 ((rd_T92 l0_3 x38_2).f3))).heap[gb202]? = some (.cells #[.int .i64 ((rd_T92 l0_3 x38_2).f0),.string ((rd_T92 l0_3 x38_2).f1),.int .i64 ((rd_T92 l0_3 x38_2).f2),.int .i64 ((rd_T92 l0_3 x38_2).f3)] 92 (0,0))):=⟨by refine pe_ ?_;refine blk_put (cs:=#[.int .i64 ((rd_T92 l0_3 x38_2).f0),.string ((rd_T92 l0_3 x38_2).f1),.int .i64 ((rd_T92 l0_3 x38_2).f2),.int .i64 0]) ?_ 3 _ rfl;refine pe_ ?_;refine blk_put (cs:=#[.int .i64 ((rd_T92 l0_3 x38_2).f0),.string ((rd_T92 l0_3 x38_2).f1),.int .i64 0,.int .i64 0]) ?_ 2 _ rfl;refine pe_ ?_;refine blk_put (cs:=#[.int .i64 ((rd_T92 l0_3 x38_2).f0),.string (⟨#[]⟩ : ByteArray),.int .i64 0,.int .i64 0]) ?_ 1 _ rfl;refine pe_ ?_;refine blk_put (cs:=#[.int .i64 0,.string (⟨#[]⟩ : ByteArray),.int .i64 0,.int .i64 0]) ?_ 0 _ rfl;refine pe_ ?_;exact BK202.out⟩
           have n2_ : Aside0 (Below w.heap.size w ((((w27.setCell ⟨gb202,0,none⟩ (.int .i64 ((rd_T92 l0_3 x38_2).f0))).setCell ⟨gb202,1,none⟩ (.string ((rd_T92 l0_3 x38_2).f1))).setCell ⟨gb202,2,none⟩ (.int .i64 ((rd_T92 l0_3 x38_2).f2))).setCell ⟨gb202,3,none⟩ (.int .i64 ((rd_T92 l0_3 x38_2).f3)))):=⟨be2_ HB.out GE198.out GE202.out⟩
           (try clear BK198)
           (try clear BK202)
           (try clear HB)
           generalize ((((w27.setCell ⟨gb202,0,none⟩ (.int .i64 ((rd_T92 l0_3 x38_2).f0))).setCell ⟨gb202,1,none⟩ (.string ((rd_T92 l0_3 x38_2).f1))).setCell ⟨gb202,2,none⟩ (.int .i64 ((rd_T92 l0_3 x38_2).f2))).setCell ⟨gb202,3,none⟩ (.int .i64 ((rd_T92 l0_3 x38_2).f3))) = w30 at n0_ n1_ n2_ ⊢
           have BK198:=n0_
           have BK202:=n1_
           have HB:=n2_
           clear n0_ n1_ n2_
           have n0_:=Aside0.mk (blk_drew BK198.out)
           have n1_:=Aside0.mk (blk_drew BK202.out)
           have n2_:=Aside0.mk (below_drew1 HB.out)
           clear BK198
           clear BK202
           clear HB
           have BK198:=n0_
           have BK202:=n1_
           have HB:=n2_
           clear n0_ n1_ n2_
           refine start_ (n:=57) (S:=fun w' => w'.cell? ⟨gb202,0,none⟩ = some (.int .i64 ((rd_T92 l0_3 x38_2).f0)) ∧ w'.cell? ⟨gb202,1,none⟩ = some (.string ((rd_T92 l0_3 x38_2).f1)) ∧ w'.cell? ⟨gb202,2,none⟩ = some (.int .i64 ((rd_T92 l0_3 x38_2).f2)) ∧ w'.cell? ⟨gb202,3,none⟩ = some (.int .i64 ((rd_T92 l0_3 x38_2).f3)) ∧ w'.cell? ⟨gb198,0,none⟩ = some (.int .i64 a0_0) ∧ w'.cell? ⟨gb198,1,none⟩ = some (.slice A0_1 l0_1.length c0_1) ∧ w'.cell? ⟨gb198,2,none⟩ = some (.slice A0_2 l0_2.length c0_2) ∧ w'.cell? ⟨gb198,3,none⟩ = some (.slice (some ad201) l0_3.length c0_3)) (ds:=[]) #[false,false,false,false,false,false,false,false,false,false,false,false,false,false,false,false,false,false,false,false,false,false,false,false,false,false,false,false,false,false,false,false,false,false,false,false,false,false,false,false,false,false,false,false,false,false,false,false,false,false,false,false,false,false,false,false,false] (by kernel_rfl) rfl rfl ⟨(blk_cell BK202.out 0).trans rfl,(blk_cell BK202.out 1).trans rfl,(blk_cell BK202.out 2).trans rfl,(blk_cell BK202.out 3).trans rfl,(blk_cell BK198.out 0).trans rfl,(blk_cell BK198.out 1).trans rfl,(blk_cell BK198.out 2).trans rfl,(blk_cell BK198.out 3).trans rfl⟩ (fun hHeld => ?_);refine with_tabW impl_AutomatonValid.tab6 impl_AutomatonValid.bits6 (fun HT_ HW_ => ?_)
           generalize w30.drew = w31 at BK198 BK202 HB hHeld ⊢
           refine stW_ [.p 0 43,.t 1 44,.p 2 45,.p 3 46,.p 4 47,.p 6 49,.t 5 48,.t 7 50,.p 8 51,.p 9 52,.p 10 53,.u 11 54,.u 12 55,.u 13 56,.p 14 57,.p 15 58,.u 16 59,.u 17 60,.u 18 61,.u 19 62,.u 20 63,.p 21 64,.p 22 65,.u 23 66,.u 24 67,.u 25 68,.u 26 69,.u 27 70,.u 28 71,.u 29 72,.u 30 73,.p 31 74,.p 32 75,.u 33 76,.u 34 77,.u 35 78,.p 36 79,.p 37 80,.u 38 81,.u 39 82,.u 40 83,.p 41 84,.p 42 85,.u 43 86,.u 44 87,.u 45 88,.u 46 89,.u 47 90,.u 48 91,.u 49 92,.u 50 93,.u 51 94,.u 52 95,.u 53 96,.u 54 97,.u 55 98,.p 56 99] 57 144115188075855871 57 HT_.out HW_.out hHeld (a':=?_) ?_ rfl (by kernel_rfl) (fun _ _ _ _ h => h) ?_
           rotate_left
           ·repeat (first|exact Steps.nil|(refine Steps.u (oi:=?_) (a1:=?_) ?_ ?_ ?_ ?_ ?_;rotate_left 1;rfl;rfl;exact Or.inr ⟨by rfl,rfl⟩;rotate_left;(simp only [Act.put,List.setIfInBounds_toArray,List.set_cons_zero,List.set_cons_succ,i64_w,i32_w];rfl))|(refine Steps.p (oi:=?_) (v:=?_) (a1:=?_) ?_ ?_ ?_ ?_ ?_;rotate_left 2;rfl;rfl;(refine Or.inl ⟨by rfl,?_⟩;intro w';go_simp;with_reducible rfl);rotate_left;(simp only [Act.put,List.setIfInBounds_toArray,List.set_cons_zero,List.set_cons_succ,i64_w,i32_w];rfl))|(refine Steps.t (oi:=?_) (v:=?_) (a1:=?_) ?_ ?_ ?_ ?_ ?_;rotate_left 2;rfl;rfl;(refine Or.inl ⟨by rfl,?_⟩;rintro w' ⟨s0,s1,s2,s3,s4,s5,s6,s7⟩;go_simp;with_reducible rfl);rotate_left;(simp only [Act.put,List.setIfInBounds_toArray,List.set_cons_zero,List.set_cons_succ,i64_w,i32_w];rfl)))
           refine done_ (done_of HT_.out (by kernel_rfl)) ?_
           try go_wp2
           go_ret
           exact ⟨by first|rfl|(simp [errW_none,errW_some] <;> rfl)|(simp [*,errW_none,errW_some] <;> rfl),be2_ HB.out GE198.out GE202.out⟩
          ·rw [if_neg c26] at H
           have c26b0 : decide (a0_0 ≤ ((rd_T92 l0_3 x38_2).f0)) = false:=decide_eq_false c26
           clear c26
           by_cases c32 : ((rd_T92 l0_3 x38_2).f2) < 0
           ·rw [if_pos c32] at H
            have c32b0 : decide (((rd_T92 l0_3 x38_2).f2) < 0) = true:=decide_eq_true c32
            clear c32
            obtain rfl:=Option.some.inj H
            have p201 : 0 ≤ (x38_2 : Int):=of_decide_eq_true (by first|(with_reducible assumption)|assumption)
            have q201 : x38_2 < (l0_3.length : Int):=of_decide_eq_true (by first|(with_reducible assumption)|assumption)
            obtain ⟨ad201,e201,hx201_0,hx201_1,hx201_2,hx201_3⟩:=at_T92 HR0_3.out x38_2 p201 q201
            cases e201
            replace hx201_0:=(HB.out.cell (World.block_lt_of_cell? w _ hx201_0)).trans hx201_0
            replace hx201_1:=(HB.out.cell (World.block_lt_of_cell? w _ hx201_1)).trans hx201_1
            replace hx201_2:=(HB.out.cell (World.block_lt_of_cell? w _ hx201_2)).trans hx201_2
            replace hx201_3:=(HB.out.cell (World.block_lt_of_cell? w _ hx201_3)).trans hx201_3
            replace p201:=eq_true p201
            replace q201:=eq_true q201
            try go_wp2_with (first|((with_reducible refine gate_dst (N:=4) rfl ?_);(try (refine gate_guard (by rfl) ?_;dsimp only));refine box_event ?hg (N:=4) ?hd (cs:=#[.int .i64 0,.string (⟨#[]⟩ : ByteArray),.int .i64 0,.int .i64 0]) (t:=92) ?hr ?_;(case hd => rfl);(case hg => rfl);(case hr => first|(go_simp;done)|(go_simp;rfl));intro gb202 hg w33 hbox hb;have n0_:=Aside0.mk (blk_below (g:=gb198) (o:=.cells #[.int .i64 a0_0,.slice A0_1 l0_1.length c0_1,.slice A0_2 l0_2.length c0_2,.slice (some ad201) l0_3.length c0_3] 33 (0,0)) (pe_ BK198.out) hb);have n1_:=Aside0.mk (below_step (be1_ HB.out GE198.out) hb);have n2_:=Aside0.mk (hbox);have n3_:=Aside0.mk ((by rw [hg];exact (below_size (be1_ HB.out GE198.out)) : w.heap.size ≤ gb202));have n4_:=Aside0.mk ((by rw [hg];exact (below_size (be1_ HB.out GE198.out)) : w.heap.size ≤ gb202));have n5_:=Aside0.mk ((by rw [hg];exact Nat.ne_of_lt (blk_lt (g:=gb198) (o:=.cells #[.int .i64 a0_0,.slice A0_1 l0_1.length c0_1,.slice A0_2 l0_2.length c0_2,.slice (some ad201) l0_3.length c0_3] 33 (0,0)) (pe_ BK198.out)) : gb198 ≠ gb202));have n6_:=Aside0.mk ((by rw [hg];exact Nat.ne_of_gt (blk_lt (g:=gb198) (o:=.cells #[.int .i64 a0_0,.slice A0_1 l0_1.length c0_1,.slice A0_2 l0_2.length c0_2,.slice (some ad201) l0_3.length c0_3] 33 (0,0)) (pe_ BK198.out)) : gb202 ≠ gb198));clear BK198;clear HB;have BK198:=n0_;have HB:=n1_;have BK202:=n2_;have GW202:=n3_;have GE202:=n4_;have NB198_202:=n5_;have NB202_198:=n6_;clear n0_ n1_ n2_ n3_ n4_ n5_ n6_;clear hb hbox hg;have hnb34:=NB202_198.out;have hnc34:=NB198_202.out;have hcz35_0 : w33.cell? ⟨gb202,0,none⟩ = some (.int .i64 0):=(blk_cell BK202.out 0).trans rfl;have hcz35_1 : w33.cell? ⟨gb202,1,none⟩ = some (.string (⟨#[]⟩ : ByteArray)):=(blk_cell BK202.out 1).trans rfl;have hcz35_2 : w33.cell? ⟨gb202,2,none⟩ = some (.int .i64 0):=(blk_cell BK202.out 2).trans rfl;have hcz35_3 : w33.cell? ⟨gb202,3,none⟩ = some (.int .i64 0):=(blk_cell BK202.out 3).trans rfl;have hfz35_0:=blk_frozen BK202.out 0;have hfz35_1:=blk_frozen BK202.out 1;have hfz35_2:=blk_frozen BK202.out 2;have hfz35_3:=blk_frozen BK202.out 3))
            have n0_ : Aside0 (((((w33.setCell ⟨gb202,0,none⟩ (.int .i64 ((rd_T92 l0_3 x38_2).f0))).setCell ⟨gb202,1,none⟩ (.string ((rd_T92 l0_3 x38_2).f1))).setCell ⟨gb202,2,none⟩ (.int .i64 ((rd_T92 l0_3 x38_2).f2))).setCell ⟨gb202,3,none⟩ (.int .i64 ((rd_T92 l0_3 x38_2).f3))).heap[gb198]? = some (.cells #[.int .i64 a0_0,.slice A0_1 l0_1.length c0_1,.slice A0_2 l0_2.length c0_2,.slice (some ad201) l0_3.length c0_3] 33 (0,0))):=⟨by refine pe_ ?_;refine blk_far ?_ NB198_202.out _;refine pe_ ?_;refine blk_far ?_ NB198_202.out _;refine pe_ ?_;refine blk_far ?_ NB198_202.out _;refine pe_ ?_;refine blk_far ?_ NB198_202.out _;refine pe_ ?_;exact BK198.out⟩
            have n1_ : Aside0 (((((w33.setCell ⟨gb202,0,none⟩ (.int .i64 ((rd_T92 l0_3 x38_2).f0))).setCell ⟨gb202,1,none⟩ (.string ((rd_T92 l0_3 x38_2).f1))).setCell ⟨gb202,2,none⟩ (.int .i64 ((rd_T92 l0_3 x38_2).f2))).setCell ⟨gb202,3,none⟩ (.int .i64 ((rd_T92 l0_3 x38_2).f3))).heap[gb202]? = some (.cells #[.int .i64 ((rd_T92 l0_3 x38_2).f0),.string ((rd_T92 l0_3 x38_2).f1),.int .i64 ((rd_T92 l0_3 x38_2).f2),.int .i64 ((rd_T92 l0_3 x38_2).f3)] 92 (0,0))):=⟨by refine pe_ ?_;refine blk_put (cs:=#[.int .i64 ((rd_T92 l0_3 x38_2).f0),.string ((rd_T92 l0_3 x38_2).f1),.int .i64 ((rd_T92 l0_3 x38_2).f2),.int .i64 0]) ?_ 3 _ rfl;refine pe_ ?_;refine blk_put (cs:=#[.int .i64 ((rd_T92 l0_3 x38_2).f0),.string ((rd_T92 l0_3 x38_2).f1),.int .i64 0,.int .i64 0]) ?_ 2 _ rfl;refine pe_ ?_;refine blk_put (cs:=#[.int .i64 ((rd_T92 l0_3 x38_2).f0),.string (⟨#[]⟩ : ByteArray),.int .i64 0,.int .i64 0]) ?_ 1 _ rfl;refine pe_ ?_;refine blk_put (cs:=#[.int .i64 0,.string (⟨#[]⟩ : ByteArray),.int .i64 0,.int .i64 0]) ?_ 0 _ rfl;refine pe_ ?_;exact BK202.out⟩
            have n2_ : Aside0 (Below w.heap.size w ((((w33.setCell ⟨gb202,0,none⟩ (.int .i64 ((rd_T92 l0_3 x38_2).f0))).setCell ⟨gb202,1,none⟩ (.string ((rd_T92 l0_3 x38_2).f1))).setCell ⟨gb202,2,none⟩ (.int .i64 ((rd_T92 l0_3 x38_2).f2))).setCell ⟨gb202,3,none⟩ (.int .i64 ((rd_T92 l0_3 x38_2).f3)))):=⟨be2_ HB.out GE198.out GE202.out⟩
            (try clear BK198)
            (try clear BK202)
            (try clear HB)
            generalize ((((w33.setCell ⟨gb202,0,none⟩ (.int .i64 ((rd_T92 l0_3 x38_2).f0))).setCell ⟨gb202,1,none⟩ (.string ((rd_T92 l0_3 x38_2).f1))).setCell ⟨gb202,2,none⟩ (.int .i64 ((rd_T92 l0_3 x38_2).f2))).setCell ⟨gb202,3,none⟩ (.int .i64 ((rd_T92 l0_3 x38_2).f3))) = w36 at n0_ n1_ n2_ ⊢
            have BK198:=n0_
            have BK202:=n1_
            have HB:=n2_
            clear n0_ n1_ n2_
            have n0_:=Aside0.mk (blk_drew BK198.out)
            have n1_:=Aside0.mk (blk_drew BK202.out)
            have n2_:=Aside0.mk (below_drew1 HB.out)
            clear BK198
            clear BK202
            clear HB
            have BK198:=n0_
            have BK202:=n1_
            have HB:=n2_
            clear n0_ n1_ n2_
            refine start_ (n:=57) (S:=fun w' => w'.cell? ⟨gb202,0,none⟩ = some (.int .i64 ((rd_T92 l0_3 x38_2).f0)) ∧ w'.cell? ⟨gb202,1,none⟩ = some (.string ((rd_T92 l0_3 x38_2).f1)) ∧ w'.cell? ⟨gb202,2,none⟩ = some (.int .i64 ((rd_T92 l0_3 x38_2).f2)) ∧ w'.cell? ⟨gb202,3,none⟩ = some (.int .i64 ((rd_T92 l0_3 x38_2).f3)) ∧ w'.cell? ⟨gb198,0,none⟩ = some (.int .i64 a0_0) ∧ w'.cell? ⟨gb198,1,none⟩ = some (.slice A0_1 l0_1.length c0_1) ∧ w'.cell? ⟨gb198,2,none⟩ = some (.slice A0_2 l0_2.length c0_2) ∧ w'.cell? ⟨gb198,3,none⟩ = some (.slice (some ad201) l0_3.length c0_3)) (ds:=[]) #[false,false,false,false,false,false,false,false,false,false,false,false,false,false,false,false,false,false,false,false,false,false,false,false,false,false,false,false,false,false,false,false,false,false,false,false,false,false,false,false,false,false,false,false,false,false,false,false,false,false,false,false,false,false,false,false,false] (by kernel_rfl) rfl rfl ⟨(blk_cell BK202.out 0).trans rfl,(blk_cell BK202.out 1).trans rfl,(blk_cell BK202.out 2).trans rfl,(blk_cell BK202.out 3).trans rfl,(blk_cell BK198.out 0).trans rfl,(blk_cell BK198.out 1).trans rfl,(blk_cell BK198.out 2).trans rfl,(blk_cell BK198.out 3).trans rfl⟩ (fun hHeld => ?_);refine with_tabW impl_AutomatonValid.tab6 impl_AutomatonValid.bits6 (fun HT_ HW_ => ?_)
            generalize w36.drew = w37 at BK198 BK202 HB hHeld ⊢
            refine stW_ [.p 0 43,.t 1 44,.p 2 45,.p 3 46,.p 4 47,.p 6 49,.t 5 48,.t 7 50,.p 8 51,.p 9 52,.p 10 53,.p 11 54,.t 12 55,.p 13 56,.p 14 57,.p 15 58,.u 16 59,.u 17 60,.u 18 61,.u 19 62,.u 20 63,.p 21 64,.p 22 65,.u 23 66,.u 24 67,.u 25 68,.u 26 69,.u 27 70,.u 28 71,.u 29 72,.u 30 73,.p 31 74,.p 32 75,.u 33 76,.u 34 77,.u 35 78,.p 36 79,.p 37 80,.u 38 81,.u 39 82,.u 40 83,.p 41 84,.p 42 85,.u 43 86,.u 44 87,.u 45 88,.u 46 89,.u 47 90,.u 48 91,.u 49 92,.u 50 93,.u 51 94,.u 52 95,.u 53 96,.u 54 97,.u 55 98,.p 56 99] 57 144115188075855871 57 HT_.out HW_.out hHeld (a':=?_) ?_ rfl (by kernel_rfl) (fun _ _ _ _ h => h) ?_
            rotate_left
            ·repeat (first|exact Steps.nil|(refine Steps.u (oi:=?_) (a1:=?_) ?_ ?_ ?_ ?_ ?_;rotate_left 1;rfl;rfl;exact Or.inr ⟨by rfl,rfl⟩;rotate_left;(simp only [Act.put,List.setIfInBounds_toArray,List.set_cons_zero,List.set_cons_succ,i64_w,i32_w];rfl))|(refine Steps.p (oi:=?_) (v:=?_) (a1:=?_) ?_ ?_ ?_ ?_ ?_;rotate_left 2;rfl;rfl;(refine Or.inl ⟨by rfl,?_⟩;intro w';go_simp;with_reducible rfl);rotate_left;(simp only [Act.put,List.setIfInBounds_toArray,List.set_cons_zero,List.set_cons_succ,i64_w,i32_w];rfl))|(refine Steps.t (oi:=?_) (v:=?_) (a1:=?_) ?_ ?_ ?_ ?_ ?_;rotate_left 2;rfl;rfl;(refine Or.inl ⟨by rfl,?_⟩;rintro w' ⟨s0,s1,s2,s3,s4,s5,s6,s7⟩;go_simp;with_reducible rfl);rotate_left;(simp only [Act.put,List.setIfInBounds_toArray,List.set_cons_zero,List.set_cons_succ,i64_w,i32_w];rfl)))
            refine done_ (done_of HT_.out (by kernel_rfl)) ?_
            try go_wp2
            go_ret
            exact ⟨by first|rfl|(simp [errW_none,errW_some] <;> rfl)|(simp [*,errW_none,errW_some] <;> rfl),be2_ HB.out GE198.out GE202.out⟩
           ·rw [if_neg c32] at H
            have c32b0 : decide (((rd_T92 l0_3 x38_2).f2) < 0) = false:=decide_eq_false c32
            clear c32
            by_cases c38 : ((rd_T92 l0_3 x38_2).f2) ≥ a0_0
            ·rw [if_pos c38] at H
             have c38b0 : decide (a0_0 ≤ ((rd_T92 l0_3 x38_2).f2)) = true:=decide_eq_true c38
             clear c38
             obtain rfl:=Option.some.inj H
             have p201 : 0 ≤ (x38_2 : Int):=of_decide_eq_true (by first|(with_reducible assumption)|assumption)
             have q201 : x38_2 < (l0_3.length : Int):=of_decide_eq_true (by first|(with_reducible assumption)|assumption)
             obtain ⟨ad201,e201,hx201_0,hx201_1,hx201_2,hx201_3⟩:=at_T92 HR0_3.out x38_2 p201 q201
             cases e201
             replace hx201_0:=(HB.out.cell (World.block_lt_of_cell? w _ hx201_0)).trans hx201_0
             replace hx201_1:=(HB.out.cell (World.block_lt_of_cell? w _ hx201_1)).trans hx201_1
             replace hx201_2:=(HB.out.cell (World.block_lt_of_cell? w _ hx201_2)).trans hx201_2
             replace hx201_3:=(HB.out.cell (World.block_lt_of_cell? w _ hx201_3)).trans hx201_3
             replace p201:=eq_true p201
             replace q201:=eq_true q201
             try go_wp2_with (first|((with_reducible refine gate_dst (N:=4) rfl ?_);(try (refine gate_guard (by rfl) ?_;dsimp only));refine box_event ?hg (N:=4) ?hd (cs:=#[.int .i64 0,.string (⟨#[]⟩ : ByteArray),.int .i64 0,.int .i64 0]) (t:=92) ?hr ?_;(case hd => rfl);(case hg => rfl);(case hr => first|(go_simp;done)|(go_simp;rfl));intro gb202 hg w39 hbox hb;have n0_:=Aside0.mk (blk_below (g:=gb198) (o:=.cells #[.int .i64 a0_0,.slice A0_1 l0_1.length c0_1,.slice A0_2 l0_2.length c0_2,.slice (some ad201) l0_3.length c0_3] 33 (0,0)) (pe_ BK198.out) hb);have n1_:=Aside0.mk (below_step (be1_ HB.out GE198.out) hb);have n2_:=Aside0.mk (hbox);have n3_:=Aside0.mk ((by rw [hg];exact (below_size (be1_ HB.out GE198.out)) : w.heap.size ≤ gb202));have n4_:=Aside0.mk ((by rw [hg];exact (below_size (be1_ HB.out GE198.out)) : w.heap.size ≤ gb202));have n5_:=Aside0.mk ((by rw [hg];exact Nat.ne_of_lt (blk_lt (g:=gb198) (o:=.cells #[.int .i64 a0_0,.slice A0_1 l0_1.length c0_1,.slice A0_2 l0_2.length c0_2,.slice (some ad201) l0_3.length c0_3] 33 (0,0)) (pe_ BK198.out)) : gb198 ≠ gb202));have n6_:=Aside0.mk ((by rw [hg];exact Nat.ne_of_gt (blk_lt (g:=gb198) (o:=.cells #[.int .i64 a0_0,.slice A0_1 l0_1.length c0_1,.slice A0_2 l0_2.length c0_2,.slice (some ad201) l0_3.length c0_3] 33 (0,0)) (pe_ BK198.out)) : gb202 ≠ gb198));clear BK198;clear HB;have BK198:=n0_;have HB:=n1_;have BK202:=n2_;have GW202:=n3_;have GE202:=n4_;have NB198_202:=n5_;have NB202_198:=n6_;clear n0_ n1_ n2_ n3_ n4_ n5_ n6_;clear hb hbox hg;have hnb40:=NB202_198.out;have hnc40:=NB198_202.out;have hcz41_0 : w39.cell? ⟨gb202,0,none⟩ = some (.int .i64 0):=(blk_cell BK202.out 0).trans rfl;have hcz41_1 : w39.cell? ⟨gb202,1,none⟩ = some (.string (⟨#[]⟩ : ByteArray)):=(blk_cell BK202.out 1).trans rfl;have hcz41_2 : w39.cell? ⟨gb202,2,none⟩ = some (.int .i64 0):=(blk_cell BK202.out 2).trans rfl;have hcz41_3 : w39.cell? ⟨gb202,3,none⟩ = some (.int .i64 0):=(blk_cell BK202.out 3).trans rfl;have hfz41_0:=blk_frozen BK202.out 0;have hfz41_1:=blk_frozen BK202.out 1;have hfz41_2:=blk_frozen BK202.out 2;have hfz41_3:=blk_frozen BK202.out 3))
             have n0_ : Aside0 (((((w39.setCell ⟨gb202,0,none⟩ (.int .i64 ((rd_T92 l0_3 x38_2).f0))).setCell ⟨gb202,1,none⟩ (.string ((rd_T92 l0_3 x38_2).f1))).setCell ⟨gb202,2,none⟩ (.int .i64 ((rd_T92 l0_3 x38_2).f2))).setCell ⟨gb202,3,none⟩ (.int .i64 ((rd_T92 l0_3 x38_2).f3))).heap[gb198]? = some (.cells #[.int .i64 a0_0,.slice A0_1 l0_1.length c0_1,.slice A0_2 l0_2.length c0_2,.slice (some ad201) l0_3.length c0_3] 33 (0,0))):=⟨by refine pe_ ?_;refine blk_far ?_ NB198_202.out _;refine pe_ ?_;refine blk_far ?_ NB198_202.out _;refine pe_ ?_;refine blk_far ?_ NB198_202.out _;refine pe_ ?_;refine blk_far ?_ NB198_202.out _;refine pe_ ?_;exact BK198.out⟩
             have n1_ : Aside0 (((((w39.setCell ⟨gb202,0,none⟩ (.int .i64 ((rd_T92 l0_3 x38_2).f0))).setCell ⟨gb202,1,none⟩ (.string ((rd_T92 l0_3 x38_2).f1))).setCell ⟨gb202,2,none⟩ (.int .i64 ((rd_T92 l0_3 x38_2).f2))).setCell ⟨gb202,3,none⟩ (.int .i64 ((rd_T92 l0_3 x38_2).f3))).heap[gb202]? = some (.cells #[.int .i64 ((rd_T92 l0_3 x38_2).f0),.string ((rd_T92 l0_3 x38_2).f1),.int .i64 ((rd_T92 l0_3 x38_2).f2),.int .i64 ((rd_T92 l0_3 x38_2).f3)] 92 (0,0))):=⟨by refine pe_ ?_;refine blk_put (cs:=#[.int .i64 ((rd_T92 l0_3 x38_2).f0),.string ((rd_T92 l0_3 x38_2).f1),.int .i64 ((rd_T92 l0_3 x38_2).f2),.int .i64 0]) ?_ 3 _ rfl;refine pe_ ?_;refine blk_put (cs:=#[.int .i64 ((rd_T92 l0_3 x38_2).f0),.string ((rd_T92 l0_3 x38_2).f1),.int .i64 0,.int .i64 0]) ?_ 2 _ rfl;refine pe_ ?_;refine blk_put (cs:=#[.int .i64 ((rd_T92 l0_3 x38_2).f0),.string (⟨#[]⟩ : ByteArray),.int .i64 0,.int .i64 0]) ?_ 1 _ rfl;refine pe_ ?_;refine blk_put (cs:=#[.int .i64 0,.string (⟨#[]⟩ : ByteArray),.int .i64 0,.int .i64 0]) ?_ 0 _ rfl;refine pe_ ?_;exact BK202.out⟩
             have n2_ : Aside0 (Below w.heap.size w ((((w39.setCell ⟨gb202,0,none⟩ (.int .i64 ((rd_T92 l0_3 x38_2).f0))).setCell ⟨gb202,1,none⟩ (.string ((rd_T92 l0_3 x38_2).f1))).setCell ⟨gb202,2,none⟩ (.int .i64 ((rd_T92 l0_3 x38_2).f2))).setCell ⟨gb202,3,none⟩ (.int .i64 ((rd_T92 l0_3 x38_2).f3)))):=⟨be2_ HB.out GE198.out GE202.out⟩
             (try clear BK198)
             (try clear BK202)
             (try clear HB)
             generalize ((((w39.setCell ⟨gb202,0,none⟩ (.int .i64 ((rd_T92 l0_3 x38_2).f0))).setCell ⟨gb202,1,none⟩ (.string ((rd_T92 l0_3 x38_2).f1))).setCell ⟨gb202,2,none⟩ (.int .i64 ((rd_T92 l0_3 x38_2).f2))).setCell ⟨gb202,3,none⟩ (.int .i64 ((rd_T92 l0_3 x38_2).f3))) = w42 at n0_ n1_ n2_ ⊢
             have BK198:=n0_
             have BK202:=n1_
             have HB:=n2_
             clear n0_ n1_ n2_
             have n0_:=Aside0.mk (blk_drew BK198.out)
             have n1_:=Aside0.mk (blk_drew BK202.out)
             have n2_:=Aside0.mk (below_drew1 HB.out)
             clear BK198
             clear BK202
             clear HB
             have BK198:=n0_
             have BK202:=n1_
             have HB:=n2_
             clear n0_ n1_ n2_
             refine start_ (n:=57) (S:=fun w' => w'.cell? ⟨gb202,0,none⟩ = some (.int .i64 ((rd_T92 l0_3 x38_2).f0)) ∧ w'.cell? ⟨gb202,1,none⟩ = some (.string ((rd_T92 l0_3 x38_2).f1)) ∧ w'.cell? ⟨gb202,2,none⟩ = some (.int .i64 ((rd_T92 l0_3 x38_2).f2)) ∧ w'.cell? ⟨gb202,3,none⟩ = some (.int .i64 ((rd_T92 l0_3 x38_2).f3)) ∧ w'.cell? ⟨gb198,0,none⟩ = some (.int .i64 a0_0) ∧ w'.cell? ⟨gb198,1,none⟩ = some (.slice A0_1 l0_1.length c0_1) ∧ w'.cell? ⟨gb198,2,none⟩ = some (.slice A0_2 l0_2.length c0_2) ∧ w'.cell? ⟨gb198,3,none⟩ = some (.slice (some ad201) l0_3.length c0_3)) (ds:=[]) #[false,false,false,false,false,false,false,false,false,false,false,false,false,false,false,false,false,false,false,false,false,false,false,false,false,false,false,false,false,false,false,false,false,false,false,false,false,false,false,false,false,false,false,false,false,false,false,false,false,false,false,false,false,false,false,false,false] (by kernel_rfl) rfl rfl ⟨(blk_cell BK202.out 0).trans rfl,(blk_cell BK202.out 1).trans rfl,(blk_cell BK202.out 2).trans rfl,(blk_cell BK202.out 3).trans rfl,(blk_cell BK198.out 0).trans rfl,(blk_cell BK198.out 1).trans rfl,(blk_cell BK198.out 2).trans rfl,(blk_cell BK198.out 3).trans rfl⟩ (fun hHeld => ?_);refine with_tabW impl_AutomatonValid.tab6 impl_AutomatonValid.bits6 (fun HT_ HW_ => ?_)
             generalize w42.drew = w43 at BK198 BK202 HB hHeld ⊢
             refine stW_ [.p 0 43,.t 1 44,.p 2 45,.p 3 46,.p 4 47,.p 6 49,.t 5 48,.t 7 50,.p 8 51,.p 9 52,.p 10 53,.p 11 54,.t 12 55,.p 13 56,.p 14 57,.p 15 58,.p 16 59,.p 18 61,.t 17 60,.t 19 62,.p 20 63,.p 21 64,.p 22 65,.u 23 66,.u 24 67,.u 25 68,.u 26 69,.u 27 70,.u 28 71,.u 29 72,.u 30 73,.p 31 74,.p 32 75,.u 33 76,.u 34 77,.u 35 78,.p 36 79,.p 37 80,.u 38 81,.u 39 82,.u 40 83,.p 41 84,.p 42 85,.u 43 86,.u 44 87,.u 45 88,.u 46 89,.u 47 90,.u 48 91,.u 49 92,.u 50 93,.u 51 94,.u 52 95,.u 53 96,.u 54 97,.u 55 98,.p 56 99] 57 144115188075855871 57 HT_.out HW_.out hHeld (a':=?_) ?_ rfl (by kernel_rfl) (fun _ _ _ _ h => h) ?_
             rotate_left
             ·repeat (first|exact Steps.nil|(refine Steps.u (oi:=?_) (a1:=?_) ?_ ?_ ?_ ?_ ?_;rotate_left 1;rfl;rfl;exact Or.inr ⟨by rfl,rfl⟩;rotate_left;(simp only [Act.put,List.setIfInBounds_toArray,List.set_cons_zero,List.set_cons_succ,i64_w,i32_w];rfl))|(refine Steps.p (oi:=?_) (v:=?_) (a1:=?_) ?_ ?_ ?_ ?_ ?_;rotate_left 2;rfl;rfl;(refine Or.inl ⟨by rfl,?_⟩;intro w';go_simp;with_reducible rfl);rotate_left;(simp only [Act.put,List.setIfInBounds_toArray,List.set_cons_zero,List.set_cons_succ,i64_w,i32_w];rfl))|(refine Steps.t (oi:=?_) (v:=?_) (a1:=?_) ?_ ?_ ?_ ?_ ?_;rotate_left 2;rfl;rfl;(refine Or.inl ⟨by rfl,?_⟩;rintro w' ⟨s0,s1,s2,s3,s4,s5,s6,s7⟩;go_simp;with_reducible rfl);rotate_left;(simp only [Act.put,List.setIfInBounds_toArray,List.set_cons_zero,List.set_cons_succ,i64_w,i32_w];rfl)))
             refine done_ (done_of HT_.out (by kernel_rfl)) ?_
             try go_wp2
             go_ret
             exact ⟨by first|rfl|(simp [errW_none,errW_some] <;> rfl)|(simp [*,errW_none,errW_some] <;> rfl),be2_ HB.out GE198.out GE202.out⟩
            ·rw [if_neg c38] at H
             have c38b0 : decide (a0_0 ≤ ((rd_T92 l0_3 x38_2).f2)) = false:=decide_eq_false c38
             clear c38
             by_cases c44 : ((rd_T92 l0_3 x38_2).f1).toList = ([97] : List UInt8)
             ·rw [if_pos c44] at H
              have c44b0 : (((rd_T92 l0_3 x38_2).f1).toList == ([97] : List UInt8)) = true:=beq_iff_eq.mpr c44
              have c44b1 : (((rd_T92 l0_3 x38_2).f1).toList != ([97] : List UInt8)) = false:=bne_eq_false_iff_eq.mpr c44
              clear c44
              by_cases c45 : ((rd_T92 l0_3 x38_2).f3) < 0
              ·rw [if_pos c45] at H
               have c45b0 : decide (((rd_T92 l0_3 x38_2).f3) < 0) = true:=decide_eq_true c45
               clear c45
               obtain rfl:=Option.some.inj H
               have p201 : 0 ≤ (x38_2 : Int):=of_decide_eq_true (by first|(with_reducible assumption)|assumption)
               have q201 : x38_2 < (l0_3.length : Int):=of_decide_eq_true (by first|(with_reducible assumption)|assumption)
               obtain ⟨ad201,e201,hx201_0,hx201_1,hx201_2,hx201_3⟩:=at_T92 HR0_3.out x38_2 p201 q201
               cases e201
               replace hx201_0:=(HB.out.cell (World.block_lt_of_cell? w _ hx201_0)).trans hx201_0
               replace hx201_1:=(HB.out.cell (World.block_lt_of_cell? w _ hx201_1)).trans hx201_1
               replace hx201_2:=(HB.out.cell (World.block_lt_of_cell? w _ hx201_2)).trans hx201_2
               replace hx201_3:=(HB.out.cell (World.block_lt_of_cell? w _ hx201_3)).trans hx201_3
               replace p201:=eq_true p201
               replace q201:=eq_true q201
               try go_wp2_with (first|((with_reducible refine gate_dst (N:=4) rfl ?_);(try (refine gate_guard (by rfl) ?_;dsimp only));refine box_event ?hg (N:=4) ?hd (cs:=#[.int .i64 0,.string (⟨#[]⟩ : ByteArray),.int .i64 0,.int .i64 0]) (t:=92) ?hr ?_;(case hd => rfl);(case hg => rfl);(case hr => first|(go_simp;done)|(go_simp;rfl));intro gb202 hg w46 hbox hb;have n0_:=Aside0.mk (blk_below (g:=gb198) (o:=.cells #[.int .i64 a0_0,.slice A0_1 l0_1.length c0_1,.slice A0_2 l0_2.length c0_2,.slice (some ad201) l0_3.length c0_3] 33 (0,0)) (pe_ BK198.out) hb);have n1_:=Aside0.mk (below_step (be1_ HB.out GE198.out) hb);have n2_:=Aside0.mk (hbox);have n3_:=Aside0.mk ((by rw [hg];exact (below_size (be1_ HB.out GE198.out)) : w.heap.size ≤ gb202));have n4_:=Aside0.mk ((by rw [hg];exact (below_size (be1_ HB.out GE198.out)) : w.heap.size ≤ gb202));have n5_:=Aside0.mk ((by rw [hg];exact Nat.ne_of_lt (blk_lt (g:=gb198) (o:=.cells #[.int .i64 a0_0,.slice A0_1 l0_1.length c0_1,.slice A0_2 l0_2.length c0_2,.slice (some ad201) l0_3.length c0_3] 33 (0,0)) (pe_ BK198.out)) : gb198 ≠ gb202));have n6_:=Aside0.mk ((by rw [hg];exact Nat.ne_of_gt (blk_lt (g:=gb198) (o:=.cells #[.int .i64 a0_0,.slice A0_1 l0_1.length c0_1,.slice A0_2 l0_2.length c0_2,.slice (some ad201) l0_3.length c0_3] 33 (0,0)) (pe_ BK198.out)) : gb202 ≠ gb198));clear BK198;clear HB;have BK198:=n0_;have HB:=n1_;have BK202:=n2_;have GW202:=n3_;have GE202:=n4_;have NB198_202:=n5_;have NB202_198:=n6_;clear n0_ n1_ n2_ n3_ n4_ n5_ n6_;clear hb hbox hg;have hnb47:=NB202_198.out;have hnc47:=NB198_202.out;have hcz48_0 : w46.cell? ⟨gb202,0,none⟩ = some (.int .i64 0):=(blk_cell BK202.out 0).trans rfl;have hcz48_1 : w46.cell? ⟨gb202,1,none⟩ = some (.string (⟨#[]⟩ : ByteArray)):=(blk_cell BK202.out 1).trans rfl;have hcz48_2 : w46.cell? ⟨gb202,2,none⟩ = some (.int .i64 0):=(blk_cell BK202.out 2).trans rfl;have hcz48_3 : w46.cell? ⟨gb202,3,none⟩ = some (.int .i64 0):=(blk_cell BK202.out 3).trans rfl;have hfz48_0:=blk_frozen BK202.out 0;have hfz48_1:=blk_frozen BK202.out 1;have hfz48_2:=blk_frozen BK202.out 2;have hfz48_3:=blk_frozen BK202.out 3))
               have n0_ : Aside0 (((((w46.setCell ⟨gb202,0,none⟩ (.int .i64 ((rd_T92 l0_3 x38_2).f0))).setCell ⟨gb202,1,none⟩ (.string ((rd_T92 l0_3 x38_2).f1))).setCell ⟨gb202,2,none⟩ (.int .i64 ((rd_T92 l0_3 x38_2).f2))).setCell ⟨gb202,3,none⟩ (.int .i64 ((rd_T92 l0_3 x38_2).f3))).heap[gb198]? = some (.cells #[.int .i64 a0_0,.slice A0_1 l0_1.length c0_1,.slice A0_2 l0_2.length c0_2,.slice (some ad201) l0_3.length c0_3] 33 (0,0))):=⟨by refine pe_ ?_;refine blk_far ?_ NB198_202.out _;refine pe_ ?_;refine blk_far ?_ NB198_202.out _;refine pe_ ?_;refine blk_far ?_ NB198_202.out _;refine pe_ ?_;refine blk_far ?_ NB198_202.out _;refine pe_ ?_;exact BK198.out⟩
               have n1_ : Aside0 (((((w46.setCell ⟨gb202,0,none⟩ (.int .i64 ((rd_T92 l0_3 x38_2).f0))).setCell ⟨gb202,1,none⟩ (.string ((rd_T92 l0_3 x38_2).f1))).setCell ⟨gb202,2,none⟩ (.int .i64 ((rd_T92 l0_3 x38_2).f2))).setCell ⟨gb202,3,none⟩ (.int .i64 ((rd_T92 l0_3 x38_2).f3))).heap[gb202]? = some (.cells #[.int .i64 ((rd_T92 l0_3 x38_2).f0),.string ((rd_T92 l0_3 x38_2).f1),.int .i64 ((rd_T92 l0_3 x38_2).f2),.int .i64 ((rd_T92 l0_3 x38_2).f3)] 92 (0,0))):=⟨by refine pe_ ?_;refine blk_put (cs:=#[.int .i64 ((rd_T92 l0_3 x38_2).f0),.string ((rd_T92 l0_3 x38_2).f1),.int .i64 ((rd_T92 l0_3 x38_2).f2),.int .i64 0]) ?_ 3 _ rfl;refine pe_ ?_;refine blk_put (cs:=#[.int .i64 ((rd_T92 l0_3 x38_2).f0),.string ((rd_T92 l0_3 x38_2).f1),.int .i64 0,.int .i64 0]) ?_ 2 _ rfl;refine pe_ ?_;refine blk_put (cs:=#[.int .i64 ((rd_T92 l0_3 x38_2).f0),.string (⟨#[]⟩ : ByteArray),.int .i64 0,.int .i64 0]) ?_ 1 _ rfl;refine pe_ ?_;refine blk_put (cs:=#[.int .i64 0,.string (⟨#[]⟩ : ByteArray),.int .i64 0,.int .i64 0]) ?_ 0 _ rfl;refine pe_ ?_;exact BK202.out⟩
               have n2_ : Aside0 (Below w.heap.size w ((((w46.setCell ⟨gb202,0,none⟩ (.int .i64 ((rd_T92 l0_3 x38_2).f0))).setCell ⟨gb202,1,none⟩ (.string ((rd_T92 l0_3 x38_2).f1))).setCell ⟨gb202,2,none⟩ (.int .i64 ((rd_T92 l0_3 x38_2).f2))).setCell ⟨gb202,3,none⟩ (.int .i64 ((rd_T92 l0_3 x38_2).f3)))):=⟨be2_ HB.out GE198.out GE202.out⟩
               (try clear BK198)
               (try clear BK202)
               (try clear HB)
               generalize ((((w46.setCell ⟨gb202,0,none⟩ (.int .i64 ((rd_T92 l0_3 x38_2).f0))).setCell ⟨gb202,1,none⟩ (.string ((rd_T92 l0_3 x38_2).f1))).setCell ⟨gb202,2,none⟩ (.int .i64 ((rd_T92 l0_3 x38_2).f2))).setCell ⟨gb202,3,none⟩ (.int .i64 ((rd_T92 l0_3 x38_2).f3))) = w49 at n0_ n1_ n2_ ⊢
               have BK198:=n0_
               have BK202:=n1_
               have HB:=n2_
               clear n0_ n1_ n2_
               have n0_:=Aside0.mk (blk_drew BK198.out)
               have n1_:=Aside0.mk (blk_drew BK202.out)
               have n2_:=Aside0.mk (below_drew1 HB.out)
               clear BK198
               clear BK202
               clear HB
               have BK198:=n0_
               have BK202:=n1_
               have HB:=n2_
               clear n0_ n1_ n2_
               refine start_ (n:=57) (S:=fun w' => w'.cell? ⟨gb202,0,none⟩ = some (.int .i64 ((rd_T92 l0_3 x38_2).f0)) ∧ w'.cell? ⟨gb202,1,none⟩ = some (.string ((rd_T92 l0_3 x38_2).f1)) ∧ w'.cell? ⟨gb202,2,none⟩ = some (.int .i64 ((rd_T92 l0_3 x38_2).f2)) ∧ w'.cell? ⟨gb202,3,none⟩ = some (.int .i64 ((rd_T92 l0_3 x38_2).f3)) ∧ w'.cell? ⟨gb198,0,none⟩ = some (.int .i64 a0_0) ∧ w'.cell? ⟨gb198,1,none⟩ = some (.slice A0_1 l0_1.length c0_1) ∧ w'.cell? ⟨gb198,2,none⟩ = some (.slice A0_2 l0_2.length c0_2) ∧ w'.cell? ⟨gb198,3,none⟩ = some (.slice (some ad201) l0_3.length c0_3)) (ds:=[]) #[false,false,false,false,false,false,false,false,false,false,false,false,false,false,false,false,false,false,false,false,false,false,false,false,false,false,false,false,false,false,false,false,false,false,false,false,false,false,false,false,false,false,false,false,false,false,false,false,false,false,false,false,false,false,false,false,false] (by kernel_rfl) rfl rfl ⟨(blk_cell BK202.out 0).trans rfl,(blk_cell BK202.out 1).trans rfl,(blk_cell BK202.out 2).trans rfl,(blk_cell BK202.out 3).trans rfl,(blk_cell BK198.out 0).trans rfl,(blk_cell BK198.out 1).trans rfl,(blk_cell BK198.out 2).trans rfl,(blk_cell BK198.out 3).trans rfl⟩ (fun hHeld => ?_);refine with_tabW impl_AutomatonValid.tab6 impl_AutomatonValid.bits6 (fun HT_ HW_ => ?_)
               generalize w49.drew = w50 at BK198 BK202 HB hHeld ⊢
               refine stW_ [.p 0 43,.t 1 44,.p 2 45,.p 3 46,.p 4 47,.p 6 49,.t 5 48,.t 7 50,.p 8 51,.p 9 52,.p 10 53,.p 11 54,.t 12 55,.p 13 56,.p 14 57,.p 15 58,.p 16 59,.p 18 61,.t 17 60,.t 19 62,.p 20 63,.p 21 64,.p 22 65,.p 23 66,.t 24 67,.p 25 68,.p 26 69,.u 27 70,.u 28 71,.u 29 72,.p 30 73,.p 31 74,.p 32 75,.p 33 76,.t 34 77,.p 35 78,.p 36 79,.p 37 80,.u 38 81,.u 39 82,.u 40 83,.p 41 84,.p 42 85,.u 43 86,.u 44 87,.u 45 88,.u 46 89,.u 47 90,.u 48 91,.u 49 92,.u 50 93,.u 51 94,.u 52 95,.u 53 96,.u 54 97,.u 55 98,.p 56 99] 57 144115188075855871 57 HT_.out HW_.out hHeld (a':=?_) ?_ rfl (by kernel_rfl) (fun _ _ _ _ h => h) ?_
               rotate_left
               ·repeat (first|exact Steps.nil|(refine Steps.u (oi:=?_) (a1:=?_) ?_ ?_ ?_ ?_ ?_;rotate_left 1;rfl;rfl;exact Or.inr ⟨by rfl,rfl⟩;rotate_left;(simp only [Act.put,List.setIfInBounds_toArray,List.set_cons_zero,List.set_cons_succ,i64_w,i32_w];rfl))|(refine Steps.p (oi:=?_) (v:=?_) (a1:=?_) ?_ ?_ ?_ ?_ ?_;rotate_left 2;rfl;rfl;(refine Or.inl ⟨by rfl,?_⟩;intro w';go_simp;with_reducible rfl);rotate_left;(simp only [Act.put,List.setIfInBounds_toArray,List.set_cons_zero,List.set_cons_succ,i64_w,i32_w];rfl))|(refine Steps.t (oi:=?_) (v:=?_) (a1:=?_) ?_ ?_ ?_ ?_ ?_;rotate_left 2;rfl;rfl;(refine Or.inl ⟨by rfl,?_⟩;rintro w' ⟨s0,s1,s2,s3,s4,s5,s6,s7⟩;go_simp;with_reducible rfl);rotate_left;(simp only [Act.put,List.setIfInBounds_toArray,List.set_cons_zero,List.set_cons_succ,i64_w,i32_w];rfl)))
               refine done_ (done_of HT_.out (by kernel_rfl)) ?_
               try go_wp2
               go_ret
               exact ⟨by first|rfl|(simp [errW_none,errW_some] <;> rfl)|(simp [*,errW_none,errW_some] <;> rfl),be2_ HB.out GE198.out GE202.out⟩
              ·rw [if_neg c45] at H
               have c45b0 : decide (((rd_T92 l0_3 x38_2).f3) < 0) = false:=decide_eq_false c45
               clear c45
               by_cases c51 : ((rd_T92 l0_3 x38_2).f3) > 3
               ·rw [if_pos c51] at H
                have c51b0 : decide (3 < ((rd_T92 l0_3 x38_2).f3)) = true:=decide_eq_true c51
                clear c51
                obtain rfl:=Option.some.inj H
                have p201 : 0 ≤ (x38_2 : Int):=of_decide_eq_true (by first|(with_reducible assumption)|assumption)
                have q201 : x38_2 < (l0_3.length : Int):=of_decide_eq_true (by first|(with_reducible assumption)|assumption)
                obtain ⟨ad201,e201,hx201_0,hx201_1,hx201_2,hx201_3⟩:=at_T92 HR0_3.out x38_2 p201 q201
                cases e201
                replace hx201_0:=(HB.out.cell (World.block_lt_of_cell? w _ hx201_0)).trans hx201_0
                replace hx201_1:=(HB.out.cell (World.block_lt_of_cell? w _ hx201_1)).trans hx201_1
                replace hx201_2:=(HB.out.cell (World.block_lt_of_cell? w _ hx201_2)).trans hx201_2
                replace hx201_3:=(HB.out.cell (World.block_lt_of_cell? w _ hx201_3)).trans hx201_3
                replace p201:=eq_true p201
                replace q201:=eq_true q201
                try go_wp2_with (first|((with_reducible refine gate_dst (N:=4) rfl ?_);(try (refine gate_guard (by rfl) ?_;dsimp only));refine box_event ?hg (N:=4) ?hd (cs:=#[.int .i64 0,.string (⟨#[]⟩ : ByteArray),.int .i64 0,.int .i64 0]) (t:=92) ?hr ?_;(case hd => rfl);(case hg => rfl);(case hr => first|(go_simp;done)|(go_simp;rfl));intro gb202 hg w52 hbox hb;have n0_:=Aside0.mk (blk_below (g:=gb198) (o:=.cells #[.int .i64 a0_0,.slice A0_1 l0_1.length c0_1,.slice A0_2 l0_2.length c0_2,.slice (some ad201) l0_3.length c0_3] 33 (0,0)) (pe_ BK198.out) hb);have n1_:=Aside0.mk (below_step (be1_ HB.out GE198.out) hb);have n2_:=Aside0.mk (hbox);have n3_:=Aside0.mk ((by rw [hg];exact (below_size (be1_ HB.out GE198.out)) : w.heap.size ≤ gb202));have n4_:=Aside0.mk ((by rw [hg];exact (below_size (be1_ HB.out GE198.out)) : w.heap.size ≤ gb202));have n5_:=Aside0.mk ((by rw [hg];exact Nat.ne_of_lt (blk_lt (g:=gb198) (o:=.cells #[.int .i64 a0_0,.slice A0_1 l0_1.length c0_1,.slice A0_2 l0_2.length c0_2,.slice (some ad201) l0_3.length c0_3] 33 (0,0)) (pe_ BK198.out)) : gb198 ≠ gb202));have n6_:=Aside0.mk ((by rw [hg];exact Nat.ne_of_gt (blk_lt (g:=gb198) (o:=.cells #[.int .i64 a0_0,.slice A0_1 l0_1.length c0_1,.slice A0_2 l0_2.length c0_2,.slice (some ad201) l0_3.length c0_3] 33 (0,0)) (pe_ BK198.out)) : gb202 ≠ gb198));clear BK198;clear HB;have BK198:=n0_;have HB:=n1_;have BK202:=n2_;have GW202:=n3_;have GE202:=n4_;have NB198_202:=n5_;have NB202_198:=n6_;clear n0_ n1_ n2_ n3_ n4_ n5_ n6_;clear hb hbox hg;have hnb53:=NB202_198.out;have hnc53:=NB198_202.out;have hcz54_0 : w52.cell? ⟨gb202,0,none⟩ = some (.int .i64 0):=(blk_cell BK202.out 0).trans rfl;have hcz54_1 : w52.cell? ⟨gb202,1,none⟩ = some (.string (⟨#[]⟩ : ByteArray)):=(blk_cell BK202.out 1).trans rfl;have hcz54_2 : w52.cell? ⟨gb202,2,none⟩ = some (.int .i64 0):=(blk_cell BK202.out 2).trans rfl;have hcz54_3 : w52.cell? ⟨gb202,3,none⟩ = some (.int .i64 0):=(blk_cell BK202.out 3).trans rfl;have hfz54_0:=blk_frozen BK202.out 0;have hfz54_1:=blk_frozen BK202.out 1;have hfz54_2:=blk_frozen BK202.out 2;have hfz54_3:=blk_frozen BK202.out 3))
                have n0_ : Aside0 (((((w52.setCell ⟨gb202,0,none⟩ (.int .i64 ((rd_T92 l0_3 x38_2).f0))).setCell ⟨gb202,1,none⟩ (.string ((rd_T92 l0_3 x38_2).f1))).setCell ⟨gb202,2,none⟩ (.int .i64 ((rd_T92 l0_3 x38_2).f2))).setCell ⟨gb202,3,none⟩ (.int .i64 ((rd_T92 l0_3 x38_2).f3))).heap[gb198]? = some (.cells #[.int .i64 a0_0,.slice A0_1 l0_1.length c0_1,.slice A0_2 l0_2.length c0_2,.slice (some ad201) l0_3.length c0_3] 33 (0,0))):=⟨by refine pe_ ?_;refine blk_far ?_ NB198_202.out _;refine pe_ ?_;refine blk_far ?_ NB198_202.out _;refine pe_ ?_;refine blk_far ?_ NB198_202.out _;refine pe_ ?_;refine blk_far ?_ NB198_202.out _;refine pe_ ?_;exact BK198.out⟩
                have n1_ : Aside0 (((((w52.setCell ⟨gb202,0,none⟩ (.int .i64 ((rd_T92 l0_3 x38_2).f0))).setCell ⟨gb202,1,none⟩ (.string ((rd_T92 l0_3 x38_2).f1))).setCell ⟨gb202,2,none⟩ (.int .i64 ((rd_T92 l0_3 x38_2).f2))).setCell ⟨gb202,3,none⟩ (.int .i64 ((rd_T92 l0_3 x38_2).f3))).heap[gb202]? = some (.cells #[.int .i64 ((rd_T92 l0_3 x38_2).f0),.string ((rd_T92 l0_3 x38_2).f1),.int .i64 ((rd_T92 l0_3 x38_2).f2),.int .i64 ((rd_T92 l0_3 x38_2).f3)] 92 (0,0))):=⟨by refine pe_ ?_;refine blk_put (cs:=#[.int .i64 ((rd_T92 l0_3 x38_2).f0),.string ((rd_T92 l0_3 x38_2).f1),.int .i64 ((rd_T92 l0_3 x38_2).f2),.int .i64 0]) ?_ 3 _ rfl;refine pe_ ?_;refine blk_put (cs:=#[.int .i64 ((rd_T92 l0_3 x38_2).f0),.string ((rd_T92 l0_3 x38_2).f1),.int .i64 0,.int .i64 0]) ?_ 2 _ rfl;refine pe_ ?_;refine blk_put (cs:=#[.int .i64 ((rd_T92 l0_3 x38_2).f0),.string (⟨#[]⟩ : ByteArray),.int .i64 0,.int .i64 0]) ?_ 1 _ rfl;refine pe_ ?_;refine blk_put (cs:=#[.int .i64 0,.string (⟨#[]⟩ : ByteArray),.int .i64 0,.int .i64 0]) ?_ 0 _ rfl;refine pe_ ?_;exact BK202.out⟩
                have n2_ : Aside0 (Below w.heap.size w ((((w52.setCell ⟨gb202,0,none⟩ (.int .i64 ((rd_T92 l0_3 x38_2).f0))).setCell ⟨gb202,1,none⟩ (.string ((rd_T92 l0_3 x38_2).f1))).setCell ⟨gb202,2,none⟩ (.int .i64 ((rd_T92 l0_3 x38_2).f2))).setCell ⟨gb202,3,none⟩ (.int .i64 ((rd_T92 l0_3 x38_2).f3)))):=⟨be2_ HB.out GE198.out GE202.out⟩
                (try clear BK198)
                (try clear BK202)
                (try clear HB)
                generalize ((((w52.setCell ⟨gb202,0,none⟩ (.int .i64 ((rd_T92 l0_3 x38_2).f0))).setCell ⟨gb202,1,none⟩ (.string ((rd_T92 l0_3 x38_2).f1))).setCell ⟨gb202,2,none⟩ (.int .i64 ((rd_T92 l0_3 x38_2).f2))).setCell ⟨gb202,3,none⟩ (.int .i64 ((rd_T92 l0_3 x38_2).f3))) = w55 at n0_ n1_ n2_ ⊢
                have BK198:=n0_
                have BK202:=n1_
                have HB:=n2_
                clear n0_ n1_ n2_
                have n0_:=Aside0.mk (blk_drew BK198.out)
                have n1_:=Aside0.mk (blk_drew BK202.out)
                have n2_:=Aside0.mk (below_drew1 HB.out)
                clear BK198
                clear BK202
                clear HB
                have BK198:=n0_
                have BK202:=n1_
                have HB:=n2_
                clear n0_ n1_ n2_
                refine start_ (n:=57) (S:=fun w' => w'.cell? ⟨gb202,0,none⟩ = some (.int .i64 ((rd_T92 l0_3 x38_2).f0)) ∧ w'.cell? ⟨gb202,1,none⟩ = some (.string ((rd_T92 l0_3 x38_2).f1)) ∧ w'.cell? ⟨gb202,2,none⟩ = some (.int .i64 ((rd_T92 l0_3 x38_2).f2)) ∧ w'.cell? ⟨gb202,3,none⟩ = some (.int .i64 ((rd_T92 l0_3 x38_2).f3)) ∧ w'.cell? ⟨gb198,0,none⟩ = some (.int .i64 a0_0) ∧ w'.cell? ⟨gb198,1,none⟩ = some (.slice A0_1 l0_1.length c0_1) ∧ w'.cell? ⟨gb198,2,none⟩ = some (.slice A0_2 l0_2.length c0_2) ∧ w'.cell? ⟨gb198,3,none⟩ = some (.slice (some ad201) l0_3.length c0_3)) (ds:=[]) #[false,false,false,false,false,false,false,false,false,false,false,false,false,false,false,false,false,false,false,false,false,false,false,false,false,false,false,false,false,false,false,false,false,false,false,false,false,false,false,false,false,false,false,false,false,false,false,false,false,false,false,false,false,false,false,false,false] (by kernel_rfl) rfl rfl ⟨(blk_cell BK202.out 0).trans rfl,(blk_cell BK202.out 1).trans rfl,(blk_cell BK202.out 2).trans rfl,(blk_cell BK202.out 3).trans rfl,(blk_cell BK198.out 0).trans rfl,(blk_cell BK198.out 1).trans rfl,(blk_cell BK198.out 2).trans rfl,(blk_cell BK198.out 3).trans rfl⟩ (fun hHeld => ?_);refine with_tabW impl_AutomatonValid.tab6 impl_AutomatonValid.bits6 (fun HT_ HW_ => ?_)
                generalize w55.drew = w56 at BK198 BK202 HB hHeld ⊢
                refine stW_ [.p 0 43,.t 1 44,.p 2 45,.p 3 46,.p 4 47,.p 6 49,.t 5 48,.t 7 50,.p 8 51,.p 9 52,.p 10 53,.p 11 54,.t 12 55,.p 13 56,.p 14 57,.p 15 58,.p 16 59,.p 18 61,.t 17 60,.t 19 62,.p 20 63,.p 21 64,.p 22 65,.p 23 66,.t 24 67,.p 25 68,.p 26 69,.u 27 70,.u 28 71,.u 29 72,.p 30 73,.p 31 74,.p 32 75,.p 33 76,.t 34 77,.p 35 78,.p 36 79,.p 37 80,.p 38 81,.t 39 82,.p 40 83,.p 41 84,.p 42 85,.u 43 86,.u 44 87,.u 45 88,.u 46 89,.u 47 90,.u 48 91,.u 49 92,.u 50 93,.u 51 94,.u 52 95,.u 53 96,.u 54 97,.u 55 98,.p 56 99] 57 144115188075855871 57 HT_.out HW_.out hHeld (a':=?_) ?_ rfl (by kernel_rfl) (fun _ _ _ _ h => h) ?_
                rotate_left
                ·repeat (first|exact Steps.nil|(refine Steps.u (oi:=?_) (a1:=?_) ?_ ?_ ?_ ?_ ?_;rotate_left 1;rfl;rfl;exact Or.inr ⟨by rfl,rfl⟩;rotate_left;(simp only [Act.put,List.setIfInBounds_toArray,List.set_cons_zero,List.set_cons_succ,i64_w,i32_w];rfl))|(refine Steps.p (oi:=?_) (v:=?_) (a1:=?_) ?_ ?_ ?_ ?_ ?_;rotate_left 2;rfl;rfl;(refine Or.inl ⟨by rfl,?_⟩;intro w';go_simp;with_reducible rfl);rotate_left;(simp only [Act.put,List.setIfInBounds_toArray,List.set_cons_zero,List.set_cons_succ,i64_w,i32_w];rfl))|(refine Steps.t (oi:=?_) (v:=?_) (a1:=?_) ?_ ?_ ?_ ?_ ?_;rotate_left 2;rfl;rfl;(refine Or.inl ⟨by rfl,?_⟩;rintro w' ⟨s0,s1,s2,s3,s4,s5,s6,s7⟩;go_simp;with_reducible rfl);rotate_left;(simp only [Act.put,List.setIfInBounds_toArray,List.set_cons_zero,List.set_cons_succ,i64_w,i32_w];rfl)))
                refine done_ (done_of HT_.out (by kernel_rfl)) ?_
                try go_wp2
                go_ret
                exact ⟨by first|rfl|(simp [errW_none,errW_some] <;> rfl)|(simp [*,errW_none,errW_some] <;> rfl),be2_ HB.out GE198.out GE202.out⟩
               ·rw [if_neg c51] at H
                have c51b0 : decide (3 < ((rd_T92 l0_3 x38_2).f3)) = false:=decide_eq_false c51
                clear c51
                by_cases c57 : x38_2 > 0
                ·rw [if_pos c57] at H
                 have c57b0 : decide (0 < x38_2) = true:=decide_eq_true c57
                 clear c57
                 obtain ⟨ji58,hji58⟩ : ∃ j_ : Int,(wrap64 (x38_2 - 1)) = j_:=⟨_,rfl⟩
                 replace H : (if 0 ≤ (ji58) then (if (ji58) < (l0_3.length : Int) then ((impl_stepOrder.f k2 ((rd_T92 l0_3 (ji58)).f0) ((rd_T92 l0_3 (ji58)).f1) ((rd_T92 l0_3 (ji58)).f2) ((rd_T92 l0_3 (ji58)).f3) ((rd_T92 l0_3 x38_2).f0) ((rd_T92 l0_3 x38_2).f1) ((rd_T92 l0_3 x38_2).f2) ((rd_T92 l0_3 x38_2).f3)).bind fun t204 => (if t204 ≥ 0 then (some false) else (impl_AutomatonValid.l0 k2 l0_3 (l0_3.length : Int) (wrap64 (x38_2 + 1)) a0_0 l0_1 l0_2 l0_3))) else (none)) else (none)) = some r:=by first|(rw [hji58] at H;exact H)|(simp only [hji58] at H ⊢;exact H)
                 have hji58w : (IntKind.i64.wrap (x38_2 - 1)) = ji58:=(i64_w _).trans hji58
                 by_cases c59 : 0 ≤ (ji58)
                 ·rw [if_pos c59] at H
                  have c59b0 : decide (0 ≤ (ji58)) = true:=decide_eq_true c59
                  clear c59
                  by_cases c60 : (ji58) < (l0_3.length : Int)
                  ·rw [if_pos c60] at H
                   have c60b0 : decide ((ji58) < (l0_3.length : Int)) = true:=decide_eq_true c60
                   clear c60
                   replace H:=Option.bind_eq_some_iff.mp H
                   obtain ⟨t204,A610,H⟩:=H
                   replace H : (if t204 ≥ 0 then (some false) else (impl_AutomatonValid.l0 k2 l0_3 (l0_3.length : Int) (wrap64 (x38_2 + 1)) a0_0 l0_1 l0_2 l0_3)) = some r:=H
                   have A61:=Aside0.mk A610
                   clear A610
                   by_cases c62 : t204 ≥ 0
                   ·rw [if_pos c62] at H
                    have c62b0 : decide (0 ≤ t204) = true:=decide_eq_true c62
                    clear c62
                    obtain rfl:=Option.some.inj H
                    have p201 : 0 ≤ (x38_2 : Int):=of_decide_eq_true (by first|(with_reducible assumption)|assumption)
                    have q201 : x38_2 < (l0_3.length : Int):=of_decide_eq_true (by first|(with_reducible assumption)|assumption)
                    obtain ⟨ad201,e201,hx201_0,hx201_1,hx201_2,hx201_3⟩:=at_T92 HR0_3.out x38_2 p201 q201
                    cases e201
                    replace hx201_0:=(HB.out.cell (World.block_lt_of_cell? w _ hx201_0)).trans hx201_0
                    replace hx201_1:=(HB.out.cell (World.block_lt_of_cell? w _ hx201_1)).trans hx201_1
                    replace hx201_2:=(HB.out.cell (World.block_lt_of_cell? w _ hx201_2)).trans hx201_2
                    replace hx201_3:=(HB.out.cell (World.block_lt_of_cell? w _ hx201_3)).trans hx201_3
                    replace p201:=eq_true p201
                    replace q201:=eq_true q201
                    try go_wp2_with (first|((with_reducible refine gate_dst (N:=4) rfl ?_);(try (refine gate_guard (by rfl) ?_;dsimp only));refine box_event ?hg (N:=4) ?hd (cs:=#[.int .i64 0,.string (⟨#[]⟩ : ByteArray),.int .i64 0,.int .i64 0]) (t:=92) ?hr ?_;(case hd => rfl);(case hg => rfl);(case hr => first|(go_simp;done)|(go_simp;rfl));intro gb202 hg w63 hbox hb;have n0_:=Aside0.mk (blk_below (g:=gb198) (o:=.cells #[.int .i64 a0_0,.slice A0_1 l0_1.length c0_1,.slice A0_2 l0_2.length c0_2,.slice (some ad201) l0_3.length c0_3] 33 (0,0)) (pe_ BK198.out) hb);have n1_:=Aside0.mk (below_step (be1_ HB.out GE198.out) hb);have n2_:=Aside0.mk (hbox);have n3_:=Aside0.mk ((by rw [hg];exact (below_size (be1_ HB.out GE198.out)) : w.heap.size ≤ gb202));have n4_:=Aside0.mk ((by rw [hg];exact (below_size (be1_ HB.out GE198.out)) : w.heap.size ≤ gb202));have n5_:=Aside0.mk ((by rw [hg];exact Nat.ne_of_lt (blk_lt (g:=gb198) (o:=.cells #[.int .i64 a0_0,.slice A0_1 l0_1.length c0_1,.slice A0_2 l0_2.length c0_2,.slice (some ad201) l0_3.length c0_3] 33 (0,0)) (pe_ BK198.out)) : gb198 ≠ gb202));have n6_:=Aside0.mk ((by rw [hg];exact Nat.ne_of_gt (blk_lt (g:=gb198) (o:=.cells #[.int .i64 a0_0,.slice A0_1 l0_1.length c0_1,.slice A0_2 l0_2.length c0_2,.slice (some ad201) l0_3.length c0_3] 33 (0,0)) (pe_ BK198.out)) : gb202 ≠ gb198));clear BK198;clear HB;have BK198:=n0_;have HB:=n1_;have BK202:=n2_;have GW202:=n3_;have GE202:=n4_;have NB198_202:=n5_;have NB202_198:=n6_;clear n0_ n1_ n2_ n3_ n4_ n5_ n6_;clear hb hbox hg;have hnb64:=NB202_198.out;have hnc64:=NB198_202.out;have hcz65_0 : w63.cell? ⟨gb202,0,none⟩ = some (.int .i64 0):=(blk_cell BK202.out 0).trans rfl;have hcz65_1 : w63.cell? ⟨gb202,1,none⟩ = some (.string (⟨#[]⟩ : ByteArray)):=(blk_cell BK202.out 1).trans rfl;have hcz65_2 : w63.cell? ⟨gb202,2,none⟩ = some (.int .i64 0):=(blk_cell BK202.out 2).trans rfl;have hcz65_3 : w63.cell? ⟨gb202,3,none⟩ = some (.int .i64 0):=(blk_cell BK202.out 3).trans rfl;have hfz65_0:=blk_frozen BK202.out 0;have hfz65_1:=blk_frozen BK202.out 1;have hfz65_2:=blk_frozen BK202.out 2;have hfz65_3:=blk_frozen BK202.out 3))
                    have n0_ : Aside0 (((((w63.setCell ⟨gb202,0,none⟩ (.int .i64 ((rd_T92 l0_3 x38_2).f0))).setCell ⟨gb202,1,none⟩ (.string ((rd_T92 l0_3 x38_2).f1))).setCell ⟨gb202,2,none⟩ (.int .i64 ((rd_T92 l0_3 x38_2).f2))).setCell ⟨gb202,3,none⟩ (.int .i64 ((rd_T92 l0_3 x38_2).f3))).heap[gb198]? = some (.cells #[.int .i64 a0_0,.slice A0_1 l0_1.length c0_1,.slice A0_2 l0_2.length c0_2,.slice (some ad201) l0_3.length c0_3] 33 (0,0))):=⟨by refine pe_ ?_;refine blk_far ?_ NB198_202.out _;refine pe_ ?_;refine blk_far ?_ NB198_202.out _;refine pe_ ?_;refine blk_far ?_ NB198_202.out _;refine pe_ ?_;refine blk_far ?_ NB198_202.out _;refine pe_ ?_;exact BK198.out⟩
                    have n1_ : Aside0 (((((w63.setCell ⟨gb202,0,none⟩ (.int .i64 ((rd_T92 l0_3 x38_2).f0))).setCell ⟨gb202,1,none⟩ (.string ((rd_T92 l0_3 x38_2).f1))).setCell ⟨gb202,2,none⟩ (.int .i64 ((rd_T92 l0_3 x38_2).f2))).setCell ⟨gb202,3,none⟩ (.int .i64 ((rd_T92 l0_3 x38_2).f3))).heap[gb202]? = some (.cells #[.int .i64 ((rd_T92 l0_3 x38_2).f0),.string ((rd_T92 l0_3 x38_2).f1),.int .i64 ((rd_T92 l0_3 x38_2).f2),.int .i64 ((rd_T92 l0_3 x38_2).f3)] 92 (0,0))):=⟨by refine pe_ ?_;refine blk_put (cs:=#[.int .i64 ((rd_T92 l0_3 x38_2).f0),.string ((rd_T92 l0_3 x38_2).f1),.int .i64 ((rd_T92 l0_3 x38_2).f2),.int .i64 0]) ?_ 3 _ rfl;refine pe_ ?_;refine blk_put (cs:=#[.int .i64 ((rd_T92 l0_3 x38_2).f0),.string ((rd_T92 l0_3 x38_2).f1),.int .i64 0,.int .i64 0]) ?_ 2 _ rfl;refine pe_ ?_;refine blk_put (cs:=#[.int .i64 ((rd_T92 l0_3 x38_2).f0),.string (⟨#[]⟩ : ByteArray),.int .i64 0,.int .i64 0]) ?_ 1 _ rfl;refine pe_ ?_;refine blk_put (cs:=#[.int .i64 0,.string (⟨#[]⟩ : ByteArray),.int .i64 0,.int .i64 0]) ?_ 0 _ rfl;refine pe_ ?_;exact BK202.out⟩
                    have n2_ : Aside0 (Below w.heap.size w ((((w63.setCell ⟨gb202,0,none⟩ (.int .i64 ((rd_T92 l0_3 x38_2).f0))).setCell ⟨gb202,1,none⟩ (.string ((rd_T92 l0_3 x38_2).f1))).setCell ⟨gb202,2,none⟩ (.int .i64 ((rd_T92 l0_3 x38_2).f2))).setCell ⟨gb202,3,none⟩ (.int .i64 ((rd_T92 l0_3 x38_2).f3)))):=⟨be2_ HB.out GE198.out GE202.out⟩
                    (try clear BK198)
                    (try clear BK202)
                    (try clear HB)
                    generalize ((((w63.setCell ⟨gb202,0,none⟩ (.int .i64 ((rd_T92 l0_3 x38_2).f0))).setCell ⟨gb202,1,none⟩ (.string ((rd_T92 l0_3 x38_2).f1))).setCell ⟨gb202,2,none⟩ (.int .i64 ((rd_T92 l0_3 x38_2).f2))).setCell ⟨gb202,3,none⟩ (.int .i64 ((rd_T92 l0_3 x38_2).f3))) = w66 at n0_ n1_ n2_ ⊢
                    have BK198:=n0_
                    have BK202:=n1_
                    have HB:=n2_
                    clear n0_ n1_ n2_
                    have n0_:=Aside0.mk (blk_drew BK198.out)
                    have n1_:=Aside0.mk (blk_drew BK202.out)
                    have n2_:=Aside0.mk (below_drew1 HB.out)
                    clear BK198
                    clear BK202
                    clear HB
                    have BK198:=n0_
                    have BK202:=n1_
                    have HB:=n2_
                    clear n0_ n1_ n2_
                    have p203 : 0 ≤ ((ji58) : Int):=of_decide_eq_true (by first|(with_reducible assumption)|assumption)
                    have q203 : (ji58) < (l0_3.length : Int):=of_decide_eq_true (by first|(with_reducible assumption)|assumption)
                    obtain ⟨ad203,e203,hx203_0,hx203_1,hx203_2,hx203_3⟩:=at_T92 HR0_3.out (ji58) p203 q203
                    have hw203_3:=hx203_3
                    have hw203_2:=hx203_2
                    have hw203_1:=hx203_1
                    have hw203_0:=hx203_0
                    obtain rfl : ad201 = ad203:=(by injection e203)
                    replace hx203_0:=(HB.out.cell (World.block_lt_of_cell? w _ hx203_0)).trans hx203_0
                    replace hx203_1:=(HB.out.cell (World.block_lt_of_cell? w _ hx203_1)).trans hx203_1
                    replace hx203_2:=(HB.out.cell (World.block_lt_of_cell? w _ hx203_2)).trans hx203_2
                    replace hx203_3:=(HB.out.cell (World.block_lt_of_cell? w _ hx203_3)).trans hx203_3
                    replace p203:=eq_true p203
                    replace q203:=eq_true q203
                    refine start_ (n:=57) (S:=fun w' => w'.cell? ⟨gb202,0,none⟩ = some (.int .i64 ((rd_T92 l0_3 x38_2).f0)) ∧ w'.cell? ⟨gb202,1,none⟩ = some (.string ((rd_T92 l0_3 x38_2).f1)) ∧ w'.cell? ⟨gb202,2,none⟩ = some (.int .i64 ((rd_T92 l0_3 x38_2).f2)) ∧ w'.cell? ⟨gb202,3,none⟩ = some (.int .i64 ((rd_T92 l0_3 x38_2).f3)) ∧ w'.cell? ⟨gb198,0,none⟩ = some (.int .i64 a0_0) ∧ w'.cell? ⟨gb198,1,none⟩ = some (.slice A0_1 l0_1.length c0_1) ∧ w'.cell? ⟨gb198,2,none⟩ = some (.slice A0_2 l0_2.length c0_2) ∧ w'.cell? ⟨gb198,3,none⟩ = some (.slice (some ad201) l0_3.length c0_3) ∧ w'.cell? (ad201.add (((ji58)).toNat * 4)) = some (.int .i64 ((rd_T92 l0_3 (ji58)).f0)) ∧ w'.cell? ⟨(ad201.add (((ji58)).toNat * 4)).block,(ad201.add (((ji58)).toNat * 4)).off + 1,none⟩ = some (.string ((rd_T92 l0_3 (ji58)).f1)) ∧ w'.cell? ⟨(ad201.add (((ji58)).toNat * 4)).block,(ad201.add (((ji58)).toNat * 4)).off + 2,none⟩ = some (.int .i64 ((rd_T92 l0_3 (ji58)).f2)) ∧ w'.cell? ⟨(ad201.add (((ji58)).toNat * 4)).block,(ad201.add (((ji58)).toNat * 4)).off + 3,none⟩ = some (.int .i64 ((rd_T92 l0_3 (ji58)).f3))) (ds:=[]) #[false,false,false,false,false,false,false,false,false,false,false,false,false,false,false,false,false,false,false,false,false,false,false,false,false,false,false,false,false,false,false,false,false,false,false,false,false,false,false,false,false,false,false,false,false,false,false,false,false,false,false,false,false,false,false,false,false] (by kernel_rfl) rfl rfl ⟨(blk_cell BK202.out 0).trans rfl,(blk_cell BK202.out 1).trans rfl,(blk_cell BK202.out 2).trans rfl,(blk_cell BK202.out 3).trans rfl,(blk_cell BK198.out 0).trans rfl,(blk_cell BK198.out 1).trans rfl,(blk_cell BK198.out 2).trans rfl,(blk_cell BK198.out 3).trans rfl,((HB.out.cell (World.block_lt_of_cell? w _ hw203_0)).trans hw203_0),((HB.out.cell (World.block_lt_of_cell? w _ hw203_1)).trans hw203_1),((HB.out.cell (World.block_lt_of_cell? w _ hw203_2)).trans hw203_2),((HB.out.cell (World.block_lt_of_cell? w _ hw203_3)).trans hw203_3)⟩ (fun hHeld => ?_);refine with_tabW impl_AutomatonValid.tab6 impl_AutomatonValid.bits6 (fun HT_ HW_ => ?_)
                    generalize w66.drew = w67 at BK198 BK202 HB hx203_0 hx203_1 hx203_2 hx203_3 hHeld ⊢
                    refine stW_ [.p 0 43,.t 1 44,.p 2 45,.p 3 46,.p 4 47,.p 6 49,.t 5 48,.t 7 50,.p 8 51,.p 9 52,.p 10 53,.p 11 54,.t 12 55,.p 13 56,.p 14 57,.p 15 58,.p 16 59,.p 18 61,.t 17 60,.t 19 62,.p 20 63,.p 21 64,.p 22 65,.p 23 66,.t 24 67,.p 25 68,.p 26 69,.u 27 70,.u 28 71,.u 29 72,.p 30 73,.p 31 74,.p 32 75,.p 33 76,.t 34 77,.p 35 78,.p 36 79,.p 37 80,.p 38 81,.t 39 82,.p 40 83,.p 41 84,.p 42 85,.p 43 86,.p 44 87,.p 45 88,.p 46 89,.p 48 91,.p 49 92,.t 47 90,.p 50 93,.t 51 94,.t 52 95] 53 9007199254740991 57 HT_.out HW_.out hHeld (a':=?_) ?_ rfl (by kernel_rfl) (fun _ _ _ _ h => h) ?_
                    rotate_left
                    ·repeat (first|exact Steps.nil|(refine Steps.u (oi:=?_) (a1:=?_) ?_ ?_ ?_ ?_ ?_;rotate_left 1;rfl;rfl;exact Or.inr ⟨by rfl,rfl⟩;rotate_left;(simp only [Act.put,List.setIfInBounds_toArray,List.set_cons_zero,List.set_cons_succ,i64_w,i32_w];rfl))|(refine Steps.p (oi:=?_) (v:=?_) (a1:=?_) ?_ ?_ ?_ ?_ ?_;rotate_left 2;rfl;rfl;(refine Or.inl ⟨by rfl,?_⟩;intro w';go_simp;with_reducible rfl);rotate_left;(simp only [Act.put,List.setIfInBounds_toArray,List.set_cons_zero,List.set_cons_succ,i64_w,i32_w];rfl))|(refine Steps.t (oi:=?_) (v:=?_) (a1:=?_) ?_ ?_ ?_ ?_ ?_;rotate_left 2;rfl;rfl;(refine Or.inl ⟨by rfl,?_⟩;rintro w' ⟨s0,s1,s2,s3,s4,s5,s6,s7,s8,s9,s10,s11⟩;go_simp;with_reducible rfl);rotate_left;(simp only [Act.put,List.setIfInBounds_toArray,List.set_cons_zero,List.set_cons_succ,i64_w,i32_w];rfl)))
                    refine one_ (i:=53) (N:=some 96) #[true,true,true,true,true,true,true,true,true,true,true,true,true,true,true,true,true,true,true,true,true,true,true,true,true,true,true,true,true,true,true,true,true,true,true,true,true,true,true,true,true,true,true,true,true,true,true,true,true,true,true,true,true,true,false,false,false] rfl rfl (one_of HT_.out (by kernel_rfl)) (by decide) (fun K hK => ?_)
                    refine goes_ Try.func125 (by kernel_rfl) rfl #[.agg #[.int .i64 ((rd_T92 l0_3 (ji58)).f0),.string ((rd_T92 l0_3 (ji58)).f1),.int .i64 ((rd_T92 l0_3 (ji58)).f2),.int .i64 ((rd_T92 l0_3 (ji58)).f3)],.agg #[.int .i64 ((rd_T92 l0_3 x38_2).f0),.string ((rd_T92 l0_3 x38_2).f1),.int .i64 ((rd_T92 l0_3 x38_2).f2),.int .i64 ((rd_T92 l0_3 x38_2).f3)]] (by rfl) rfl rfl (by (try simp only [List.map_toArray,List.map_cons,List.map_nil]);first|done|(simp only [hji58];rfl)|rfl|(simp only [List.length_drop,List.length_take];rfl)) ?_
                    with_reducible refine (impl_stepOrder.calls k2 ((rd_T92 l0_3 (ji58)).f0) ((rd_T92 l0_3 (ji58)).f1) ((rd_T92 l0_3 (ji58)).f2) ((rd_T92 l0_3 (ji58)).f3) ((rd_T92 l0_3 x38_2).f0) ((rd_T92 l0_3 x38_2).f1) ((rd_T92 l0_3 x38_2).f2) ((rd_T92 l0_3 x38_2).f3) t204 _ A61.out).mono ?_
                    rintro e w68 ⟨rfl,hb⟩
                    refine ⟨_,rfl,?_⟩
                    have n0_:=Aside0.mk (blk_below (g:=gb198) (o:=.cells #[.int .i64 a0_0,.slice A0_1 l0_1.length c0_1,.slice A0_2 l0_2.length c0_2,.slice (some ad201) l0_3.length c0_3] 33 (0,0)) (pe_ BK198.out) hb)
                    have n1_:=Aside0.mk (blk_below (g:=gb202) (o:=.cells #[.int .i64 ((rd_T92 l0_3 x38_2).f0),.string ((rd_T92 l0_3 x38_2).f1),.int .i64 ((rd_T92 l0_3 x38_2).f2),.int .i64 ((rd_T92 l0_3 x38_2).f3)] 92 (0,0)) (pe_ BK202.out) hb)
                    have n2_:=Aside0.mk (below_step (be2_ HB.out GE198.out GE202.out) hb)
                    clear BK198
                    clear BK202
                    clear HB
                    have BK198:=n0_
                    have BK202:=n1_
                    have HB:=n2_
                    clear n0_ n1_ n2_
                    (try clear hb)
                    (try clear hb2)
                    (try clear hk)
                    (try clear hi)
                    refine hK.out _ _ ⟨(blk_cell BK202.out 0).trans rfl,(blk_cell BK202.out 1).trans rfl,(blk_cell BK202.out 2).trans rfl,(blk_cell BK202.out 3).trans rfl,(blk_cell BK198.out 0).trans rfl,(blk_cell BK198.out 1).trans rfl,(blk_cell BK198.out 2).trans rfl,(blk_cell BK198.out 3).trans rfl,((HB.out.cell (World.block_lt_of_cell? w _ hw203_0)).trans hw203_0),((HB.out.cell (World.block_lt_of_cell? w _ hw203_1)).trans hw203_1),((HB.out.cell (World.block_lt_of_cell? w _ hw203_2)).trans hw203_2),((HB.out.cell (World.block_lt_of_cell? w _ hw203_3)).trans hw203_3)⟩ (fun hHeld => ?_)
                    clear hK K
                    refine norm_ (a':=?_) ?_ ?_
                    rotate_left
                    ·show Act.put _ (some 96) _ = _
                     simp only [Act.put,List.setIfInBounds_toArray,List.set_cons_zero,List.set_cons_succ,i64_w,i32_w]
                     rfl
                    refine stW_ [.p 54 97,.p 55 98,.p 56 99] 3 144115188075855871 57 HT_.out HW_.out hHeld (a':=?_) ?_ rfl (by kernel_rfl) (fun _ _ _ _ h => h) ?_
                    rotate_left
                    ·repeat (first|exact Steps.nil|(refine Steps.p (oi:=?_) (v:=?_) (a1:=?_) ?_ ?_ ?_ ?_ ?_;rotate_left 2;rfl;rfl;(refine Or.inl ⟨by rfl,?_⟩;intro w';go_simp;with_reducible rfl);rotate_left;(simp only [Act.put,List.setIfInBounds_toArray,List.set_cons_zero,List.set_cons_succ,i64_w,i32_w];rfl)))
                    refine done_ (done_of HT_.out (by kernel_rfl)) ?_
                    try go_wp2
                    go_ret
                    exact ⟨by first|rfl|(simp [errW_none,errW_some] <;> rfl)|(simp only [← hji58];first|rfl|(simp [errW_none,errW_some] <;> rfl))|(simp [*,errW_none,errW_some] <;> rfl),be2_ HB.out GE198.out GE202.out⟩
                   ·rw [if_neg c62] at H
                    have c62b0 : decide (0 ≤ t204) = false:=decide_eq_false c62
                    clear c62
                    have H':=Aside0.mk H
                    clear H
                    have p201 : 0 ≤ (x38_2 : Int):=of_decide_eq_true (by first|(with_reducible assumption)|assumption)
                    have q201 : x38_2 < (l0_3.length : Int):=of_decide_eq_true (by first|(with_reducible assumption)|assumption)
                    obtain ⟨ad201,e201,hx201_0,hx201_1,hx201_2,hx201_3⟩:=at_T92 HR0_3.out x38_2 p201 q201
                    cases e201
                    replace hx201_0:=(HB.out.cell (World.block_lt_of_cell? w _ hx201_0)).trans hx201_0
                    replace hx201_1:=(HB.out.cell (World.block_lt_of_cell? w _ hx201_1)).trans hx201_1
                    replace hx201_2:=(HB.out.cell (World.block_lt_of_cell? w _ hx201_2)).trans hx201_2
                    replace hx201_3:=(HB.out.cell (World.block_lt_of_cell? w _ hx201_3)).trans hx201_3
                    replace p201:=eq_true p201
                    replace q201:=eq_true q201
                    try go_wp2_with (first|((with_reducible refine gate_dst (N:=4) rfl ?_);(try (refine gate_guard (by rfl) ?_;dsimp only));refine box_event ?hg (N:=4) ?hd (cs:=#[.int .i64 0,.string (⟨#[]⟩ : ByteArray),.int .i64 0,.int .i64 0]) (t:=92) ?hr ?_;(case hd => rfl);(case hg => rfl);(case hr => first|(go_simp;done)|(go_simp;rfl));intro gb202 hg w69 hbox hb;have n0_:=Aside0.mk (blk_below (g:=gb198) (o:=.cells #[.int .i64 a0_0,.slice A0_1 l0_1.length c0_1,.slice A0_2 l0_2.length c0_2,.slice (some ad201) l0_3.length c0_3] 33 (0,0)) (pe_ BK198.out) hb);have n1_:=Aside0.mk (below_step (be1_ HB.out GE198.out) hb);have n2_:=Aside0.mk (hbox);have n3_:=Aside0.mk ((by rw [hg];exact (below_size (be1_ HB.out GE198.out)) : w.heap.size ≤ gb202));have n4_:=Aside0.mk ((by rw [hg];exact (below_size (be1_ HB.out GE198.out)) : w.heap.size ≤ gb202));have n5_:=Aside0.mk ((by rw [hg];exact Nat.ne_of_lt (blk_lt (g:=gb198) (o:=.cells #[.int .i64 a0_0,.slice A0_1 l0_1.length c0_1,.slice A0_2 l0_2.length c0_2,.slice (some ad201) l0_3.length c0_3] 33 (0,0)) (pe_ BK198.out)) : gb198 ≠ gb202));have n6_:=Aside0.mk ((by rw [hg];exact Nat.ne_of_gt (blk_lt (g:=gb198) (o:=.cells #[.int .i64 a0_0,.slice A0_1 l0_1.length c0_1,.slice A0_2 l0_2.length c0_2,.slice (some ad201) l0_3.length c0_3] 33 (0,0)) (pe_ BK198.out)) : gb202 ≠ gb198));clear BK198;clear HB;have BK198:=n0_;have HB:=n1_;have BK202:=n2_;have GW202:=n3_;have GE202:=n4_;have NB198_202:=n5_;have NB202_198:=n6_;clear n0_ n1_ n2_ n3_ n4_ n5_ n6_;clear hb hbox hg;have hnb70:=NB202_198.out;have hnc70:=NB198_202.out;have hcz71_0 : w69.cell? ⟨gb202,0,none⟩ = some (.int .i64 0):=(blk_cell BK202.out 0).trans rfl;have hcz71_1 : w69.cell? ⟨gb202,1,none⟩ = some (.string (⟨#[]⟩ : ByteArray)):=(blk_cell BK202.out 1).trans rfl;have hcz71_2 : w69.cell? ⟨gb202,2,none⟩ = some (.int .i64 0):=(blk_cell BK202.out 2).trans rfl;have hcz71_3 : w69.cell? ⟨gb202,3,none⟩ = some (.int .i64 0):=(blk_cell BK202.out 3).trans rfl;have hfz71_0:=blk_frozen BK202.out 0;have hfz71_1:=blk_frozen BK202.out 1;have hfz71_2:=blk_frozen BK202.out 2;have hfz71_3:=blk_frozen BK202.out 3))
                    have n0_ : Aside0 (((((w69.setCell ⟨gb202,0,none⟩ (.int .i64 ((rd_T92 l0_3 x38_2).f0))).setCell ⟨gb202,1,none⟩ (.string ((rd_T92 l0_3 x38_2).f1))).setCell ⟨gb202,2,none⟩ (.int .i64 ((rd_T92 l0_3 x38_2).f2))).setCell ⟨gb202,3,none⟩ (.int .i64 ((rd_T92 l0_3 x38_2).f3))).heap[gb198]? = some (.cells #[.int .i64 a0_0,.slice A0_1 l0_1.length c0_1,.slice A0_2 l0_2.length c0_2,.slice (some ad201) l0_3.length c0_3] 33 (0,0))):=⟨by refine pe_ ?_;refine blk_far ?_ NB198_202.out _;refine pe_ ?_;refine blk_far ?_ NB198_202.out _;refine pe_ ?_;refine blk_far ?_ NB198_202.out _;refine pe_ ?_;refine blk_far ?_ NB198_202.out _;refine pe_ ?_;exact BK198.out⟩
                    have n1_ : Aside0 (((((w69.setCell ⟨gb202,0,none⟩ (.int .i64 ((rd_T92 l0_3 x38_2).f0))).setCell ⟨gb202,1,none⟩ (.string ((rd_T92 l0_3 x38_2).f1))).setCell ⟨gb202,2,none⟩ (.int .i64 ((rd_T92 l0_3 x38_2).f2))).setCell ⟨gb202,3,none⟩ (.int .i64 ((rd_T92 l0_3 x38_2).f3))).heap[gb202]? = some (.cells #[.int .i64 ((rd_T92 l0_3 x38_2).f0),.string ((rd_T92 l0_3 x38_2).f1),.int .i64 ((rd_T92 l0_3 x38_2).f2),.int .i64 ((rd_T92 l0_3 x38_2).f3)] 92 (0,0))):=⟨by refine pe_ ?_;refine blk_put (cs:=#[.int .i64 ((rd_T92 l0_3 x38_2).f0),.string ((rd_T92 l0_3 x38_2).f1),.int .i64 ((rd_T92 l0_3 x38_2).f2),.int .i64 0]) ?_ 3 _ rfl;refine pe_ ?_;refine blk_put (cs:=#[.int .i64 ((rd_T92 l0_3 x38_2).f0),.string ((rd_T92 l0_3 x38_2).f1),.int .i64 0,.int .i64 0]) ?_ 2 _ rfl;refine pe_ ?_;refine blk_put (cs:=#[.int .i64 ((rd_T92 l0_3 x38_2).f0),.string (⟨#[]⟩ : ByteArray),.int .i64 0,.int .i64 0]) ?_ 1 _ rfl;refine pe_ ?_;refine blk_put (cs:=#[.int .i64 0,.string (⟨#[]⟩ : ByteArray),.int .i64 0,.int .i64 0]) ?_ 0 _ rfl;refine pe_ ?_;exact BK202.out⟩
                    have n2_ : Aside0 (Below w.heap.size w ((((w69.setCell ⟨gb202,0,none⟩ (.int .i64 ((rd_T92 l0_3 x38_2).f0))).setCell ⟨gb202,1,none⟩ (.string ((rd_T92 l0_3 x38_2).f1))).setCell ⟨gb202,2,none⟩ (.int .i64 ((rd_T92 l0_3 x38_2).f2))).setCell ⟨gb202,3,none⟩ (.int .i64 ((rd_T92 l0_3 x38_2).f3)))):=⟨be2_ HB.out GE198.out GE202.out⟩
                    (try clear BK198)
                    (try clear BK202)
                    (try clear HB)
                    generalize ((((w69.setCell ⟨gb202,0,none⟩ (.int .i64 ((rd_T92 l0_3 x38_2).f0))).setCell ⟨gb202,1,none⟩ (.string ((rd_T92 l0_3 x38_2).f1))).setCell ⟨gb202,2,none⟩ (.int .i64 ((rd_T92 l0_3 x38_2).f2))).setCell ⟨gb202,3,none⟩ (.int .i64 ((rd_T92 l0_3 x38_2).f3))) = w72 at n0_ n1_ n2_ ⊢
                    have BK198:=n0_
                    have BK202:=n1_
                    have HB:=n2_
                    clear n0_ n1_ n2_
                    have n0_:=Aside0.mk (blk_drew BK198.out)
                    have n1_:=Aside0.mk (blk_drew BK202.out)
                    have n2_:=Aside0.mk (below_drew1 HB.out)
                    clear BK198
                    clear BK202
                    clear HB
                    have BK198:=n0_
                    have BK202:=n1_
                    have HB:=n2_
                    clear n0_ n1_ n2_
                    have p203 : 0 ≤ ((ji58) : Int):=of_decide_eq_true (by first|(with_reducible assumption)|assumption)
                    have q203 : (ji58) < (l0_3.length : Int):=of_decide_eq_true (by first|(with_reducible assumption)|assumption)
                    obtain ⟨ad203,e203,hx203_0,hx203_1,hx203_2,hx203_3⟩:=at_T92 HR0_3.out (ji58) p203 q203
                    have hw203_3:=hx203_3
                    have hw203_2:=hx203_2
                    have hw203_1:=hx203_1
                    have hw203_0:=hx203_0
                    obtain rfl : ad201 = ad203:=(by injection e203)
                    replace hx203_0:=(HB.out.cell (World.block_lt_of_cell? w _ hx203_0)).trans hx203_0
                    replace hx203_1:=(HB.out.cell (World.block_lt_of_cell? w _ hx203_1)).trans hx203_1
                    replace hx203_2:=(HB.out.cell (World.block_lt_of_cell? w _ hx203_2)).trans hx203_2
                    replace hx203_3:=(HB.out.cell (World.block_lt_of_cell? w _ hx203_3)).trans hx203_3
                    replace p203:=eq_true p203
                    replace q203:=eq_true q203
                    refine start_ (n:=57) (S:=fun w' => w'.cell? ⟨gb202,0,none⟩ = some (.int .i64 ((rd_T92 l0_3 x38_2).f0)) ∧ w'.cell? ⟨gb202,1,none⟩ = some (.string ((rd_T92 l0_3 x38_2).f1)) ∧ w'.cell? ⟨gb202,2,none⟩ = some (.int .i64 ((rd_T92 l0_3 x38_2).f2)) ∧ w'.cell? ⟨gb202,3,none⟩ = some (.int .i64 ((rd_T92 l0_3 x38_2).f3)) ∧ w'.cell? ⟨gb198,0,none⟩ = some (.int .i64 a0_0) ∧ w'.cell? ⟨gb198,1,none⟩ = some (.slice A0_1 l0_1.length c0_1) ∧ w'.cell? ⟨gb198,2,none⟩ = some (.slice A0_2 l0_2.length c0_2) ∧ w'.cell? ⟨gb198,3,none⟩ = some (.slice (some ad201) l0_3.length c0_3) ∧ w'.cell? (ad201.add (((ji58)).toNat * 4)) = some (.int .i64 ((rd_T92 l0_3 (ji58)).f0)) ∧ w'.cell? ⟨(ad201.add (((ji58)).toNat * 4)).block,(ad201.add (((ji58)).toNat * 4)).off + 1,none⟩ = some (.string ((rd_T92 l0_3 (ji58)).f1)) ∧ w'.cell? ⟨(ad201.add (((ji58)).toNat * 4)).block,(ad201.add (((ji58)).toNat * 4)).off + 2,none⟩ = some (.int .i64 ((rd_T92 l0_3 (ji58)).f2)) ∧ w'.cell? ⟨(ad201.add (((ji58)).toNat * 4)).block,(ad201.add (((ji58)).toNat * 4)).off + 3,none⟩ = some (.int .i64 ((rd_T92 l0_3 (ji58)).f3))) (ds:=[]) #[false,false,false,false,false,false,false,false,false,false,false,false,false,false,false,false,false,false,false,false,false,false,false,false,false,false,false,false,false,false,false,false,false,false,false,false,false,false,false,false,false,false,false,false,false,false,false,false,false,false,false,false,false,false,false,false,false] (by kernel_rfl) rfl rfl ⟨(blk_cell BK202.out 0).trans rfl,(blk_cell BK202.out 1).trans rfl,(blk_cell BK202.out 2).trans rfl,(blk_cell BK202.out 3).trans rfl,(blk_cell BK198.out 0).trans rfl,(blk_cell BK198.out 1).trans rfl,(blk_cell BK198.out 2).trans rfl,(blk_cell BK198.out 3).trans rfl,((HB.out.cell (World.block_lt_of_cell? w _ hw203_0)).trans hw203_0),((HB.out.cell (World.block_lt_of_cell? w _ hw203_1)).trans hw203_1),((HB.out.cell (World.block_lt_of_cell? w _ hw203_2)).trans hw203_2),((HB.out.cell (World.block_lt_of_cell? w _ hw203_3)).trans hw203_3)⟩ (fun hHeld => ?_);refine with_tabW impl_AutomatonValid.tab6 impl_AutomatonValid.bits6 (fun HT_ HW_ => ?_)
                    generalize w72.drew = w73 at BK198 BK202 HB hx203_0 hx203_1 hx203_2 hx203_3 hHeld ⊢
                    refine stW_ [.p 0 43,.t 1 44,.p 2 45,.p 3 46,.p 4 47,.p 6 49,.t 5 48,.t 7 50,.p 8 51,.p 9 52,.p 10 53,.p 11 54,.t 12 55,.p 13 56,.p 14 57,.p 15 58,.p 16 59,.p 18 61,.t 17 60,.t 19 62,.p 20 63,.p 21 64,.p 22 65,.p 23 66,.t 24 67,.p 25 68,.p 26 69,.u 27 70,.u 28 71,.u 29 72,.p 30 73,.p 31 74,.p 32 75,.p 33 76,.t 34 77,.p 35 78,.p 36 79,.p 37 80,.p 38 81,.t 39 82,.p 40 83,.p 41 84,.p 42 85,.p 43 86,.p 44 87,.p 45 88,.p 46 89,.p 48 91,.p 49 92,.t 47 90,.p 50 93,.t 51 94,.t 52 95] 53 9007199254740991 57 HT_.out HW_.out hHeld (a':=?_) ?_ rfl (by kernel_rfl) (fun _ _ _ _ h => h) ?_
                    rotate_left
                    ·repeat (first|exact Steps.nil|(refine Steps.u (oi:=?_) (a1:=?_) ?_ ?_ ?_ ?_ ?_;rotate_left 1;rfl;rfl;exact Or.inr ⟨by rfl,rfl⟩;rotate_left;(simp only [Act.put,List.setIfInBounds_toArray,List.set_cons_zero,List.set_cons_succ,i64_w,i32_w];rfl))|(refine Steps.p (oi:=?_) (v:=?_) (a1:=?_) ?_ ?_ ?_ ?_ ?_;rotate_left 2;rfl;rfl;(refine Or.inl ⟨by rfl,?_⟩;intro w';go_simp;with_reducible rfl);rotate_left;(simp only [Act.put,List.setIfInBounds_toArray,List.set_cons_zero,List.set_cons_succ,i64_w,i32_w];rfl))|(refine Steps.t (oi:=?_) (v:=?_) (a1:=?_) ?_ ?_ ?_ ?_ ?_;rotate_left 2;rfl;rfl;(refine Or.inl ⟨by rfl,?_⟩;rintro w' ⟨s0,s1,s2,s3,s4,s5,s6,s7,s8,s9,s10,s11⟩;go_simp;with_reducible rfl);rotate_left;(simp only [Act.put,List.setIfInBounds_toArray,List.set_cons_zero,List.set_cons_succ,i64_w,i32_w];rfl)))
                    refine one_ (i:=53) (N:=some 96) #[true,true,true,true,true,true,true,true,true,true,true,true,true,true,true,true,true,true,true,true,true,true,true,true,true,true,true,true,true,true,true,true,true,true,true,true,true,true,true,true,true,true,true,true,true,true,true,true,true,true,true,true,true,true,false,false,false] rfl rfl (one_of HT_.out (by kernel_rfl)) (by decide) (fun K hK => ?_)
                    refine goes_ Try.func125 (by kernel_rfl) rfl #[.agg #[.int .i64 ((rd_T92 l0_3 (ji58)).f0),.string ((rd_T92 l0_3 (ji58)).f1),.int .i64 ((rd_T92 l0_3 (ji58)).f2),.int .i64 ((rd_T92 l0_3 (ji58)).f3)],.agg #[.int .i64 ((rd_T92 l0_3 x38_2).f0),.string ((rd_T92 l0_3 x38_2).f1),.int .i64 ((rd_T92 l0_3 x38_2).f2),.int .i64 ((rd_T92 l0_3 x38_2).f3)]] (by rfl) rfl rfl (by (try simp only [List.map_toArray,List.map_cons,List.map_nil]);first|done|(simp only [hji58];rfl)|rfl|(simp only [List.length_drop,List.length_take];rfl)) ?_
                    with_reducible refine (impl_stepOrder.calls k2 ((rd_T92 l0_3 (ji58)).f0) ((rd_T92 l0_3 (ji58)).f1) ((rd_T92 l0_3 (ji58)).f2) ((rd_T92 l0_3 (ji58)).f3) ((rd_T92 l0_3 x38_2).f0) ((rd_T92 l0_3 x38_2).f1) ((rd_T92 l0_3 x38_2).f2) ((rd_T92 l0_3 x38_2).f3) t204 _ A61.out).mono ?_
                    rintro e w74 ⟨rfl,hb⟩
                    refine ⟨_,rfl,?_⟩
                    have n0_:=Aside0.mk (blk_below (g:=gb198) (o:=.cells #[.int .i64 a0_0,.slice A0_1 l0_1.length c0_1,.slice A0_2 l0_2.length c0_2,.slice (some ad201) l0_3.length c0_3] 33 (0,0)) (pe_ BK198.out) hb)
                    have n1_:=Aside0.mk (blk_below (g:=gb202) (o:=.cells #[.int .i64 ((rd_T92 l0_3 x38_2).f0),.string ((rd_T92 l0_3 x38_2).f1),.int .i64 ((rd_T92 l0_3 x38_2).f2),.int .i64 ((rd_T92 l0_3 x38_2).f3)] 92 (0,0)) (pe_ BK202.out) hb)
                    have n2_:=Aside0.mk (below_step (be2_ HB.out GE198.out GE202.out) hb)
                    clear BK198
                    clear BK202
                    clear HB
                    have BK198:=n0_
                    have BK202:=n1_
                    have HB:=n2_
                    clear n0_ n1_ n2_
                    (try clear hb)
                    (try clear hb2)
                    (try clear hk)
                    (try clear hi)
                    refine hK.out _ _ ⟨(blk_cell BK202.out 0).trans rfl,(blk_cell BK202.out 1).trans rfl,(blk_cell BK202.out 2).trans rfl,(blk_cell BK202.out 3).trans rfl,(blk_cell BK198.out 0).trans rfl,(blk_cell BK198.out 1).trans rfl,(blk_cell BK198.out 2).trans rfl,(blk_cell BK198.out 3).trans rfl,((HB.out.cell (World.block_lt_of_cell? w _ hw203_0)).trans hw203_0),((HB.out.cell (World.block_lt_of_cell? w _ hw203_1)).trans hw203_1),((HB.out.cell (World.block_lt_of_cell? w _ hw203_2)).trans hw203_2),((HB.out.cell (World.block_lt_of_cell? w _ hw203_3)).trans hw203_3)⟩ (fun hHeld => ?_)
                    clear hK K
                    refine norm_ (a':=?_) ?_ ?_
                    rotate_left
                    ·show Act.put _ (some 96) _ = _
                     simp only [Act.put,List.setIfInBounds_toArray,List.set_cons_zero,List.set_cons_succ,i64_w,i32_w]
                     rfl
                    refine stW_ [.p 54 97,.p 55 98,.p 56 99] 3 144115188075855871 57 HT_.out HW_.out hHeld (a':=?_) ?_ rfl (by kernel_rfl) (fun _ _ _ _ h => h) ?_
                    rotate_left
                    ·repeat (first|exact Steps.nil|(refine Steps.p (oi:=?_) (v:=?_) (a1:=?_) ?_ ?_ ?_ ?_ ?_;rotate_left 2;rfl;rfl;(refine Or.inl ⟨by rfl,?_⟩;intro w';go_simp;with_reducible rfl);rotate_left;(simp only [Act.put,List.setIfInBounds_toArray,List.set_cons_zero,List.set_cons_succ,i64_w,i32_w];rfl)))
                    refine done_ (done_of HT_.out (by kernel_rfl)) ?_
                    try go_wp2
                    go_roundg k2
                    case measure => have:=HJ1.out;have:=HK2.out;omega
                    case rel => exact ⟨(wrap64 (x38_2 + 1)),(by first|rfl|(simp;done)|(simp [*];done)),H',⟨by have:=HJ1.out;have:=HK2.out;omega⟩,⟨pe_ BK198.out⟩,⟨be2_ HB.out GE198.out GE202.out⟩⟩
                  ·rw [if_neg c60] at H
                   exact absurd H (by simp)
                 ·rw [if_neg c59] at H
                  exact absurd H (by simp)
                ·rw [if_neg c57] at H
                 have c57b0 : decide (0 < x38_2) = false:=decide_eq_false c57
                 clear c57
                 have H':=Aside0.mk H
                 clear H
                 have p201 : 0 ≤ (x38_2 : Int):=of_decide_eq_true (by first|(with_reducible assumption)|assumption)
                 have q201 : x38_2 < (l0_3.length : Int):=of_decide_eq_true (by first|(with_reducible assumption)|assumption)
                 obtain ⟨ad201,e201,hx201_0,hx201_1,hx201_2,hx201_3⟩:=at_T92 HR0_3.out x38_2 p201 q201
                 cases e201
                 replace hx201_0:=(HB.out.cell (World.block_lt_of_cell? w _ hx201_0)).trans hx201_0
                 replace hx201_1:=(HB.out.cell (World.block_lt_of_cell? w _ hx201_1)).trans hx201_1
                 replace hx201_2:=(HB.out.cell (World.block_lt_of_cell? w _ hx201_2)).trans hx201_2
                 replace hx201_3:=(HB.out.cell (World.block_lt_of_cell? w _ hx201_3)).trans hx201_3
                 replace p201:=eq_true p201
                 replace q201:=eq_true q201
                 try go_wp2_with (first|((with_reducible refine gate_dst (N:=4) rfl ?_);(try (refine gate_guard (by rfl) ?_;dsimp only));refine box_event ?hg (N:=4) ?hd (cs:=#[.int .i64 0,.string (⟨#[]⟩ : ByteArray),.int .i64 0,.int .i64 0]) (t:=92) ?hr ?_;(case hd => rfl);(case hg => rfl);(case hr => first|(go_simp;done)|(go_simp;rfl));intro gb202 hg w75 hbox hb;have n0_:=Aside0.mk (blk_below (g:=gb198) (o:=.cells #[.int .i64 a0_0,.slice A0_1 l0_1.length c0_1,.slice A0_2 l0_2.length c0_2,.slice (some ad201) l0_3.length c0_3] 33 (0,0)) (pe_ BK198.out) hb);have n1_:=Aside0.mk (below_step (be1_ HB.out GE198.out) hb);have n2_:=Aside0.mk (hbox);have n3_:=Aside0.mk ((by rw [hg];exact (below_size (be1_ HB.out GE198.out)) : w.heap.size ≤ gb202));have n4_:=Aside0.mk ((by rw [hg];exact (below_size (be1_ HB.out GE198.out)) : w.heap.size ≤ gb202));have n5_:=Aside0.mk ((by rw [hg];exact Nat.ne_of_lt (blk_lt (g:=gb198) (o:=.cells #[.int .i64 a0_0,.slice A0_1 l0_1.length c0_1,.slice A0_2 l0_2.length c0_2,.slice (some ad201) l0_3.length c0_3] 33 (0,0)) (pe_ BK198.out)) : gb198 ≠ gb202));have n6_:=Aside0.mk ((by rw [hg];exact Nat.ne_of_gt (blk_lt (g:=gb198) (o:=.cells #[.int .i64 a0_0,.slice A0_1 l0_1.length c0_1,.slice A0_2 l0_2.length c0_2,.slice (some ad201) l0_3.length c0_3] 33 (0,0)) (pe_ BK198.out)) : gb202 ≠ gb198));clear BK198;clear HB;have BK198:=n0_;have HB:=n1_;have BK202:=n2_;have GW202:=n3_;have GE202:=n4_;have NB198_202:=n5_;have NB202_198:=n6_;clear n0_ n1_ n2_ n3_ n4_ n5_ n6_;clear hb hbox hg;have hnb76:=NB202_198.out;have hnc76:=NB198_202.out;have hcz77_0 : w75.cell? ⟨gb202,0,none⟩ = some (.int .i64 0):=(blk_cell BK202.out 0).trans rfl;have hcz77_1 : w75.cell? ⟨gb202,1,none⟩ = some (.string (⟨#[]⟩ : ByteArray)):=(blk_cell BK202.out 1).trans rfl;have hcz77_2 : w75.cell? ⟨gb202,2,none⟩ = some (.int .i64 0):=(blk_cell BK202.out 2).trans rfl;have hcz77_3 : w75.cell? ⟨gb202,3,none⟩ = some (.int .i64 0):=(blk_cell BK202.out 3).trans rfl;have hfz77_0:=blk_frozen BK202.out 0;have hfz77_1:=blk_frozen BK202.out 1;have hfz77_2:=blk_frozen BK202.out 2;have hfz77_3:=blk_frozen BK202.out 3))
                 have n0_ : Aside0 (((((w75.setCell ⟨gb202,0,none⟩ (.int .i64 ((rd_T92 l0_3 x38_2).f0))).setCell ⟨gb202,1,none⟩ (.string ((rd_T92 l0_3 x38_2).f1))).setCell ⟨gb202,2,none⟩ (.int .i64 ((rd_T92 l0_3 x38_2).f2))).setCell ⟨gb202,3,none⟩ (.int .i64 ((rd_T92 l0_3 x38_2).f3))).heap[gb198]? = some (.cells #[.int .i64 a0_0,.slice A0_1 l0_1.length c0_1,.slice A0_2 l0_2.length c0_2,.slice (some ad201) l0_3.length c0_3] 33 (0,0))):=⟨by refine pe_ ?_;refine blk_far ?_ NB198_202.out _;refine pe_ ?_;refine blk_far ?_ NB198_202.out _;refine pe_ ?_;refine blk_far ?_ NB198_202.out _;refine pe_ ?_;refine blk_far ?_ NB198_202.out _;refine pe_ ?_;exact BK198.out⟩
                 have n1_ : Aside0 (((((w75.setCell ⟨gb202,0,none⟩ (.int .i64 ((rd_T92 l0_3 x38_2).f0))).setCell ⟨gb202,1,none⟩ (.string ((rd_T92 l0_3 x38_2).f1))).setCell ⟨gb202,2,none⟩ (.int .i64 ((rd_T92 l0_3 x38_2).f2))).setCell ⟨gb202,3,none⟩ (.int .i64 ((rd_T92 l0_3 x38_2).f3))).heap[gb202]? = some (.cells #[.int .i64 ((rd_T92 l0_3 x38_2).f0),.string ((rd_T92 l0_3 x38_2).f1),.int .i64 ((rd_T92 l0_3 x38_2).f2),.int .i64 ((rd_T92 l0_3 x38_2).f3)] 92 (0,0))):=⟨by refine pe_ ?_;refine blk_put (cs:=#[.int .i64 ((rd_T92 l0_3 x38_2).f0),.string ((rd_T92 l0_3 x38_2).f1),.int .i64 ((rd_T92 l0_3 x38_2).f2),.int .i64 0]) ?_ 3 _ rfl;refine pe_ ?_;refine blk_put (cs:=#[.int .i64 ((rd_T92 l0_3 x38_2).f0),.string ((rd_T92 l0_3 x38_2).f1),.int .i64 0,.int .i64 0]) ?_ 2 _ rfl;refine pe_ ?_;refine blk_put (cs:=#[.int .i64 ((rd_T92 l0_3 x38_2).f0),.string (⟨#[]⟩ : ByteArray),.int .i64 0,.int .i64 0]) ?_ 1 _ rfl;refine pe_ ?_;refine blk_put (cs:=#[.int .i64 0,.string (⟨#[]⟩ : ByteArray),.int .i64 0,.int .i64 0]) ?_ 0 _ rfl;refine pe_ ?_;exact BK202.out⟩
                 have n2_ : Aside0 (Below w.heap.size w ((((w75.setCell ⟨gb202,0,none⟩ (.int .i64 ((rd_T92 l0_3 x38_2).f0))).setCell ⟨gb202,1,none⟩ (.string ((rd_T92 l0_3 x38_2).f1))).setCell ⟨gb202,2,none⟩ (.int .i64 ((rd_T92 l0_3 x38_2).f2))).setCell ⟨gb202,3,none⟩ (.int .i64 ((rd_T92 l0_3 x38_2).f3)))):=⟨be2_ HB.out GE198.out GE202.out⟩
                 (try clear BK198)
                 (try clear BK202)
                 (try clear HB)
                 generalize ((((w75.setCell ⟨gb202,0,none⟩ (.int .i64 ((rd_T92 l0_3 x38_2).f0))).setCell ⟨gb202,1,none⟩ (.string ((rd_T92 l0_3 x38_2).f1))).setCell ⟨gb202,2,none⟩ (.int .i64 ((rd_T92 l0_3 x38_2).f2))).setCell ⟨gb202,3,none⟩ (.int .i64 ((rd_T92 l0_3 x38_2).f3))) = w78 at n0_ n1_ n2_ ⊢
                 have BK198:=n0_
                 have BK202:=n1_
                 have HB:=n2_
                 clear n0_ n1_ n2_
                 have n0_:=Aside0.mk (blk_drew BK198.out)
                 have n1_:=Aside0.mk (blk_drew BK202.out)
                 have n2_:=Aside0.mk (below_drew1 HB.out)
                 clear BK198
                 clear BK202
                 clear HB
                 have BK198:=n0_
                 have BK202:=n1_
                 have HB:=n2_
                 clear n0_ n1_ n2_
                 refine start_ (n:=57) (S:=fun w' => w'.cell? ⟨gb202,0,none⟩ = some (.int .i64 ((rd_T92 l0_3 x38_2).f0)) ∧ w'.cell? ⟨gb202,1,none⟩ = some (.string ((rd_T92 l0_3 x38_2).f1)) ∧ w'.cell? ⟨gb202,2,none⟩ = some (.int .i64 ((rd_T92 l0_3 x38_2).f2)) ∧ w'.cell? ⟨gb202,3,none⟩ = some (.int .i64 ((rd_T92 l0_3 x38_2).f3)) ∧ w'.cell? ⟨gb198,0,none⟩ = some (.int .i64 a0_0) ∧ w'.cell? ⟨gb198,1,none⟩ = some (.slice A0_1 l0_1.length c0_1) ∧ w'.cell? ⟨gb198,2,none⟩ = some (.slice A0_2 l0_2.length c0_2) ∧ w'.cell? ⟨gb198,3,none⟩ = some (.slice (some ad201) l0_3.length c0_3)) (ds:=[]) #[false,false,false,false,false,false,false,false,false,false,false,false,false,false,false,false,false,false,false,false,false,false,false,false,false,false,false,false,false,false,false,false,false,false,false,false,false,false,false,false,false,false,false,false,false,false,false,false,false,false,false,false,false,false,false,false,false] (by kernel_rfl) rfl rfl ⟨(blk_cell BK202.out 0).trans rfl,(blk_cell BK202.out 1).trans rfl,(blk_cell BK202.out 2).trans rfl,(blk_cell BK202.out 3).trans rfl,(blk_cell BK198.out 0).trans rfl,(blk_cell BK198.out 1).trans rfl,(blk_cell BK198.out 2).trans rfl,(blk_cell BK198.out 3).trans rfl⟩ (fun hHeld => ?_);refine with_tabW impl_AutomatonValid.tab6 impl_AutomatonValid.bits6 (fun HT_ HW_ => ?_)
                 generalize w78.drew = w79 at BK198 BK202 HB hHeld ⊢
                 refine stW_ [.p 0 43,.t 1 44,.p 2 45,.p 3 46,.p 4 47,.p 6 49,.t 5 48,.t 7 50,.p 8 51,.p 9 52,.p 10 53,.p 11 54,.t 12 55,.p 13 56,.p 14 57,.p 15 58,.p 16 59,.p 18 61,.t 17 60,.t 19 62,.p 20 63,.p 21 64,.p 22 65,.p 23 66,.t 24 67,.p 25 68,.p 26 69,.u 27 70,.u 28 71,.u 29 72,.p 30 73,.p 31 74,.p 32 75,.p 33 76,.t 34 77,.p 35 78,.p 36 79,.p 37 80,.p 38 81,.t 39 82,.p 40 83,.p 41 84,.p 42 85,.p 43 86,.p 44 87,.p 45 88,.u 46 89,.u 47 90,.u 48 91,.u 49 92,.u 50 93,.u 51 94,.u 52 95,.u 53 96,.u 54 97,.p 55 98,.p 56 99] 57 144115188075855871 57 HT_.out HW_.out hHeld (a':=?_) ?_ rfl (by kernel_rfl) (fun _ _ _ _ h => h) ?_
                 rotate_left
                 ·repeat (first|exact Steps.nil|(refine Steps.u (oi:=?_) (a1:=?_) ?_ ?_ ?_ ?_ ?_;rotate_left 1;rfl;rfl;exact Or.inr ⟨by rfl,rfl⟩;rotate_left;(simp only [Act.put,List.setIfInBounds_toArray,List.set_cons_zero,List.set_cons_succ,i64_w,i32_w];rfl))|(refine Steps.p (oi:=?_) (v:=?_) (a1:=?_) ?_ ?_ ?_ ?_ ?_;rotate_left 2;rfl;rfl;(refine Or.inl ⟨by rfl,?_⟩;intro w';go_simp;with_reducible rfl);rotate_left;(simp only [Act.put,List.setIfInBounds_toArray,List.set_cons_zero,List.set_cons_succ,i64_w,i32_w];rfl))|(refine Steps.t (oi:=?_) (v:=?_) (a1:=?_) ?_ ?_ ?_ ?_ ?_;rotate_left 2;rfl;rfl;(refine Or.inl ⟨by rfl,?_⟩;rintro w' ⟨s0,s1,s2,s3,s4,s5,s6,s7⟩;go_simp;with_reducible rfl);rotate_left;(simp only [Act.put,List.setIfInBounds_toArray,List.set_cons_zero,List.set_cons_succ,i64_w,i32_w];rfl)))
                 refine done_ (done_of HT_.out (by kernel_rfl)) ?_
                 try go_wp2
                 go_roundg k2
                 case measure => have:=HJ1.out;have:=HK2.out;omega
                 case rel => exact ⟨(wrap64 (x38_2 + 1)),(by first|rfl|(simp;done)|(simp [*];done)),H',⟨by have:=HJ1.out;have:=HK2.out;omega⟩,⟨pe_ BK198.out⟩,⟨be2_ HB.out GE198.out GE202.out⟩⟩
             ·rw [if_neg c44] at H
              have c44b0 : (((rd_T92 l0_3 x38_2).f1).toList == ([97] : List UInt8)) = false:=beq_eq_false_iff_ne.mpr c44
              have c44b1 : (((rd_T92 l0_3 x38_2).f1).toList != ([97] : List UInt8)) = true:=bne_iff_ne.mpr c44
              by_cases c80 : ((rd_T92 l0_3 x38_2).f1).toList = ([98] : List UInt8)
              ·rw [if_pos c80] at H
               have c80b0 : (((rd_T92 l0_3 x38_2).f1).toList == ([98] : List UInt8)) = true:=beq_iff_eq.mpr c80
               have c80b1 : (((rd_T92 l0_3 x38_2).f1).toList != ([98] : List UInt8)) = false:=bne_eq_false_iff_eq.mpr c80
               clear c80
               by_cases c81 : ((rd_T92 l0_3 x38_2).f3) < 0
               ·rw [if_pos c81] at H
                have c81b0 : decide (((rd_T92 l0_3 x38_2).f3) < 0) = true:=decide_eq_true c81
                clear c81
                obtain rfl:=Option.some.inj H
                have p201 : 0 ≤ (x38_2 : Int):=of_decide_eq_true (by first|(with_reducible assumption)|assumption)
                have q201 : x38_2 < (l0_3.length : Int):=of_decide_eq_true (by first|(with_reducible assumption)|assumption)
                obtain ⟨ad201,e201,hx201_0,hx201_1,hx201_2,hx201_3⟩:=at_T92 HR0_3.out x38_2 p201 q201
                cases e201
                replace hx201_0:=(HB.out.cell (World.block_lt_of_cell? w _ hx201_0)).trans hx201_0
                replace hx201_1:=(HB.out.cell (World.block_lt_of_cell? w _ hx201_1)).trans hx201_1
                replace hx201_2:=(HB.out.cell (World.block_lt_of_cell? w _ hx201_2)).trans hx201_2
                replace hx201_3:=(HB.out.cell (World.block_lt_of_cell? w _ hx201_3)).trans hx201_3
                replace p201:=eq_true p201
                replace q201:=eq_true q201
                try go_wp2_with (first|((with_reducible refine gate_dst (N:=4) rfl ?_);(try (refine gate_guard (by rfl) ?_;dsimp only));refine box_event ?hg (N:=4) ?hd (cs:=#[.int .i64 0,.string (⟨#[]⟩ : ByteArray),.int .i64 0,.int .i64 0]) (t:=92) ?hr ?_;(case hd => rfl);(case hg => rfl);(case hr => first|(go_simp;done)|(go_simp;rfl));intro gb202 hg w82 hbox hb;have n0_:=Aside0.mk (blk_below (g:=gb198) (o:=.cells #[.int .i64 a0_0,.slice A0_1 l0_1.length c0_1,.slice A0_2 l0_2.length c0_2,.slice (some ad201) l0_3.length c0_3] 33 (0,0)) (pe_ BK198.out) hb);have n1_:=Aside0.mk (below_step (be1_ HB.out GE198.out) hb);have n2_:=Aside0.mk (hbox);have n3_:=Aside0.mk ((by rw [hg];exact (below_size (be1_ HB.out GE198.out)) : w.heap.size ≤ gb202));have n4_:=Aside0.mk ((by rw [hg];exact (below_size (be1_ HB.out GE198.out)) : w.heap.size ≤ gb202));have n5_:=Aside0.mk ((by rw [hg];exact Nat.ne_of_lt (blk_lt (g:=gb198) (o:=.cells #[.int .i64 a0_0,.slice A0_1 l0_1.length c0_1,.slice A0_2 l0_2.length c0_2,.slice (some ad201) l0_3.length c0_3] 33 (0,0)) (pe_ BK198.out)) : gb198 ≠ gb202));have n6_:=Aside0.mk ((by rw [hg];exact Nat.ne_of_gt (blk_lt (g:=gb198) (o:=.cells #[.int .i64 a0_0,.slice A0_1 l0_1.length c0_1,.slice A0_2 l0_2.length c0_2,.slice (some ad201) l0_3.length c0_3] 33 (0,0)) (pe_ BK198.out)) : gb202 ≠ gb198));clear BK198;clear HB;have BK198:=n0_;have HB:=n1_;have BK202:=n2_;have GW202:=n3_;have GE202:=n4_;have NB198_202:=n5_;have NB202_198:=n6_;clear n0_ n1_ n2_ n3_ n4_ n5_ n6_;clear hb hbox hg;have hnb83:=NB202_198.out;have hnc83:=NB198_202.out;have hcz84_0 : w82.cell? ⟨gb202,0,none⟩ = some (.int .i64 0):=(blk_cell BK202.out 0).trans rfl;have hcz84_1 : w82.cell? ⟨gb202,1,none⟩ = some (.string (⟨#[]⟩ : ByteArray)):=(blk_cell BK202.out 1).trans rfl;have hcz84_2 : w82.cell? ⟨gb202,2,none⟩ = some (.int .i64 0):=(blk_cell BK202.out 2).trans rfl;have hcz84_3 : w82.cell? ⟨gb202,3,none⟩ = some (.int .i64 0):=(blk_cell BK202.out 3).trans rfl;have hfz84_0:=blk_frozen BK202.out 0;have hfz84_1:=blk_frozen BK202.out 1;have hfz84_2:=blk_frozen BK202.out 2;have hfz84_3:=blk_frozen BK202.out 3))
                have n0_ : Aside0 (((((w82.setCell ⟨gb202,0,none⟩ (.int .i64 ((rd_T92 l0_3 x38_2).f0))).setCell ⟨gb202,1,none⟩ (.string ((rd_T92 l0_3 x38_2).f1))).setCell ⟨gb202,2,none⟩ (.int .i64 ((rd_T92 l0_3 x38_2).f2))).setCell ⟨gb202,3,none⟩ (.int .i64 ((rd_T92 l0_3 x38_2).f3))).heap[gb198]? = some (.cells #[.int .i64 a0_0,.slice A0_1 l0_1.length c0_1,.slice A0_2 l0_2.length c0_2,.slice (some ad201) l0_3.length c0_3] 33 (0,0))):=⟨by refine pe_ ?_;refine blk_far ?_ NB198_202.out _;refine pe_ ?_;refine blk_far ?_ NB198_202.out _;refine pe_ ?_;refine blk_far ?_ NB198_202.out _;refine pe_ ?_;refine blk_far ?_ NB198_202.out _;refine pe_ ?_;exact BK198.out⟩
                have n1_ : Aside0 (((((w82.setCell ⟨gb202,0,none⟩ (.int .i64 ((rd_T92 l0_3 x38_2).f0))).setCell ⟨gb202,1,none⟩ (.string ((rd_T92 l0_3 x38_2).f1))).setCell ⟨gb202,2,none⟩ (.int .i64 ((rd_T92 l0_3 x38_2).f2))).setCell ⟨gb202,3,none⟩ (.int .i64 ((rd_T92 l0_3 x38_2).f3))).heap[gb202]? = some (.cells #[.int .i64 ((rd_T92 l0_3 x38_2).f0),.string ((rd_T92 l0_3 x38_2).f1),.int .i64 ((rd_T92 l0_3 x38_2).f2),.int .i64 ((rd_T92 l0_3 x38_2).f3)] 92 (0,0))):=⟨by refine pe_ ?_;refine blk_put (cs:=#[.int .i64 ((rd_T92 l0_3 x38_2).f0),.string ((rd_T92 l0_3 x38_2).f1),.int .i64 ((rd_T92 l0_3 x38_2).f2),.int .i64 0]) ?_ 3 _ rfl;refine pe_ ?_;refine blk_put (cs:=#[.int .i64 ((rd_T92 l0_3 x38_2).f0),.string ((rd_T92 l0_3 x38_2).f1),.int .i64 0,.int .i64 0]) ?_ 2 _ rfl;refine pe_ ?_;refine blk_put (cs:=#[.int .i64 ((rd_T92 l0_3 x38_2).f0),.string (⟨#[]⟩ : ByteArray),.int .i64 0,.int .i64 0]) ?_ 1 _ rfl;refine pe_ ?_;refine blk_put (cs:=#[.int .i64 0,.string (⟨#[]⟩ : ByteArray),.int .i64 0,.int .i64 0]) ?_ 0 _ rfl;refine pe_ ?_;exact BK202.out⟩
                have n2_ : Aside0 (Below w.heap.size w ((((w82.setCell ⟨gb202,0,none⟩ (.int .i64 ((rd_T92 l0_3 x38_2).f0))).setCell ⟨gb202,1,none⟩ (.string ((rd_T92 l0_3 x38_2).f1))).setCell ⟨gb202,2,none⟩ (.int .i64 ((rd_T92 l0_3 x38_2).f2))).setCell ⟨gb202,3,none⟩ (.int .i64 ((rd_T92 l0_3 x38_2).f3)))):=⟨be2_ HB.out GE198.out GE202.out⟩
                (try clear BK198)
                (try clear BK202)
                (try clear HB)
                generalize ((((w82.setCell ⟨gb202,0,none⟩ (.int .i64 ((rd_T92 l0_3 x38_2).f0))).setCell ⟨gb202,1,none⟩ (.string ((rd_T92 l0_3 x38_2).f1))).setCell ⟨gb202,2,none⟩ (.int .i64 ((rd_T92 l0_3 x38_2).f2))).setCell ⟨gb202,3,none⟩ (.int .i64 ((rd_T92 l0_3 x38_2).f3))) = w85 at n0_ n1_ n2_ ⊢
                have BK198:=n0_
                have BK202:=n1_
                have HB:=n2_
                clear n0_ n1_ n2_
                have n0_:=Aside0.mk (blk_drew BK198.out)
                have n1_:=Aside0.mk (blk_drew BK202.out)
                have n2_:=Aside0.mk (below_drew1 HB.out)
                clear BK198
                clear BK202
                clear HB
                have BK198:=n0_
                have BK202:=n1_
                have HB:=n2_
                clear n0_ n1_ n2_
                refine start_ (n:=57) (S:=fun w' => w'.cell? ⟨gb202,0,none⟩ = some (.int .i64 ((rd_T92 l0_3 x38_2).f0)) ∧ w'.cell? ⟨gb202,1,none⟩ = some (.string ((rd_T92 l0_3 x38_2).f1)) ∧ w'.cell? ⟨gb202,2,none⟩ = some (.int .i64 ((rd_T92 l0_3 x38_2).f2)) ∧ w'.cell? ⟨gb202,3,none⟩ = some (.int .i64 ((rd_T92 l0_3 x38_2).f3)) ∧ w'.cell? ⟨gb198,0,none⟩ = some (.int .i64 a0_0) ∧ w'.cell? ⟨gb198,1,none⟩ = some (.slice A0_1 l0_1.length c0_1) ∧ w'.cell? ⟨gb198,2,none⟩ = some (.slice A0_2 l0_2.length c0_2) ∧ w'.cell? ⟨gb198,3,none⟩ = some (.slice (some ad201) l0_3.length c0_3)) (ds:=[]) #[false,false,false,false,false,false,false,false,false,false,false,false,false,false,false,false,false,false,false,false,false,false,false,false,false,false,false,false,false,false,false,false,false,false,false,false,false,false,false,false,false,false,false,false,false,false,false,false,false,false,false,false,false,false,false,false,false] (by kernel_rfl) rfl rfl ⟨(blk_cell BK202.out 0).trans rfl,(blk_cell BK202.out 1).trans rfl,(blk_cell BK202.out 2).trans rfl,(blk_cell BK202.out 3).trans rfl,(blk_cell BK198.out 0).trans rfl,(blk_cell BK198.out 1).trans rfl,(blk_cell BK198.out 2).trans rfl,(blk_cell BK198.out 3).trans rfl⟩ (fun hHeld => ?_);refine with_tabW impl_AutomatonValid.tab6 impl_AutomatonValid.bits6 (fun HT_ HW_ => ?_)
                generalize w85.drew = w86 at BK198 BK202 HB hHeld ⊢
                refine stW_ [.p 0 43,.t 1 44,.p 2 45,.p 3 46,.p 4 47,.p 6 49,.t 5 48,.t 7 50,.p 8 51,.p 9 52,.p 10 53,.p 11 54,.t 12 55,.p 13 56,.p 14 57,.p 15 58,.p 16 59,.p 18 61,.t 17 60,.t 19 62,.p 20 63,.p 21 64,.p 22 65,.p 23 66,.t 24 67,.p 25 68,.p 26 69,.p 27 70,.t 28 71,.p 29 72,.p 30 73,.p 31 74,.p 32 75,.p 33 76,.t 34 77,.p 35 78,.p 36 79,.p 37 80,.u 38 81,.u 39 82,.u 40 83,.p 41 84,.p 42 85,.u 43 86,.u 44 87,.u 45 88,.u 46 89,.u 47 90,.u 48 91,.u 49 92,.u 50 93,.u 51 94,.u 52 95,.u 53 96,.u 54 97,.u 55 98,.p 56 99] 57 144115188075855871 57 HT_.out HW_.out hHeld (a':=?_) ?_ rfl (by kernel_rfl) (fun _ _ _ _ h => h) ?_
                rotate_left
                ·repeat (first|exact Steps.nil|(refine Steps.u (oi:=?_) (a1:=?_) ?_ ?_ ?_ ?_ ?_;rotate_left 1;rfl;rfl;exact Or.inr ⟨by rfl,rfl⟩;rotate_left;(simp only [Act.put,List.setIfInBounds_toArray,List.set_cons_zero,List.set_cons_succ,i64_w,i32_w];rfl))|(refine Steps.p (oi:=?_) (v:=?_) (a1:=?_) ?_ ?_ ?_ ?_ ?_;rotate_left 2;rfl;rfl;(refine Or.inl ⟨by rfl,?_⟩;intro w';go_simp;with_reducible rfl);rotate_left;(simp only [Act.put,List.setIfInBounds_toArray,List.set_cons_zero,List.set_cons_succ,i64_w,i32_w];rfl))|(refine Steps.t (oi:=?_) (v:=?_) (a1:=?_) ?_ ?_ ?_ ?_ ?_;rotate_left 2;rfl;rfl;(refine Or.inl ⟨by rfl,?_⟩;rintro w' ⟨s0,s1,s2,s3,s4,s5,s6,s7⟩;go_simp;with_reducible rfl);rotate_left;(simp only [Act.put,List.setIfInBounds_toArray,List.set_cons_zero,List.set_cons_succ,i64_w,i32_w];rfl)))
                refine done_ (done_of HT_.out (by kernel_rfl)) ?_
                try go_wp2
                go_ret
                exact ⟨by first|rfl|(simp [errW_none,errW_some] <;> rfl)|(simp [*,errW_none,errW_some] <;> rfl),be2_ HB.out GE198.out GE202.out⟩
               ·rw [if_neg c81] at H
                have c81b0 : decide (((rd_T92 l0_3 x38_2).f3) < 0) = false:=decide_eq_false c81
                clear c81
                by_cases c87 : ((rd_T92 l0_3 x38_2).f3) > 3
                ·rw [if_pos c87] at H
                 have c87b0 : decide (3 < ((rd_T92 l0_3 x38_2).f3)) = true:=decide_eq_true c87
                 clear c87
                 obtain rfl:=Option.some.inj H
                 have p201 : 0 ≤ (x38_2 : Int):=of_decide_eq_true (by first|(with_reducible assumption)|assumption)
                 have q201 : x38_2 < (l0_3.length : Int):=of_decide_eq_true (by first|(with_reducible assumption)|assumption)
                 obtain ⟨ad201,e201,hx201_0,hx201_1,hx201_2,hx201_3⟩:=at_T92 HR0_3.out x38_2 p201 q201
                 cases e201
                 replace hx201_0:=(HB.out.cell (World.block_lt_of_cell? w _ hx201_0)).trans hx201_0
                 replace hx201_1:=(HB.out.cell (World.block_lt_of_cell? w _ hx201_1)).trans hx201_1
                 replace hx201_2:=(HB.out.cell (World.block_lt_of_cell? w _ hx201_2)).trans hx201_2
                 replace hx201_3:=(HB.out.cell (World.block_lt_of_cell? w _ hx201_3)).trans hx201_3
                 replace p201:=eq_true p201
                 replace q201:=eq_true q201
                 try go_wp2_with (first|((with_reducible refine gate_dst (N:=4) rfl ?_);(try (refine gate_guard (by rfl) ?_;dsimp only));refine box_event ?hg (N:=4) ?hd (cs:=#[.int .i64 0,.string (⟨#[]⟩ : ByteArray),.int .i64 0,.int .i64 0]) (t:=92) ?hr ?_;(case hd => rfl);(case hg => rfl);(case hr => first|(go_simp;done)|(go_simp;rfl));intro gb202 hg w88 hbox hb;have n0_:=Aside0.mk (blk_below (g:=gb198) (o:=.cells #[.int .i64 a0_0,.slice A0_1 l0_1.length c0_1,.slice A0_2 l0_2.length c0_2,.slice (some ad201) l0_3.length c0_3] 33 (0,0)) (pe_ BK198.out) hb);have n1_:=Aside0.mk (below_step (be1_ HB.out GE198.out) hb);have n2_:=Aside0.mk (hbox);have n3_:=Aside0.mk ((by rw [hg];exact (below_size (be1_ HB.out GE198.out)) : w.heap.size ≤ gb202));have n4_:=Aside0.mk ((by rw [hg];exact (below_size (be1_ HB.out GE198.out)) : w.heap.size ≤ gb202));have n5_:=Aside0.mk ((by rw [hg];exact Nat.ne_of_lt (blk_lt (g:=gb198) (o:=.cells #[.int .i64 a0_0,.slice A0_1 l0_1.length c0_1,.slice A0_2 l0_2.length c0_2,.slice (some ad201) l0_3.length c0_3] 33 (0,0)) (pe_ BK198.out)) : gb198 ≠ gb202));have n6_:=Aside0.mk ((by rw [hg];exact Nat.ne_of_gt (blk_lt (g:=gb198) (o:=.cells #[.int .i64 a0_0,.slice A0_1 l0_1.length c0_1,.slice A0_2 l0_2.length c0_2,.slice (some ad201) l0_3.length c0_3] 33 (0,0)) (pe_ BK198.out)) : gb202 ≠ gb198));clear BK198;clear HB;have BK198:=n0_;have HB:=n1_;have BK202:=n2_;have GW202:=n3_;have GE202:=n4_;have NB198_202:=n5_;have NB202_198:=n6_;clear n0_ n1_ n2_ n3_ n4_ n5_ n6_;clear hb hbox hg;have hnb89:=NB202_198.out;have hnc89:=NB198_202.out;have hcz90_0 : w88.cell? ⟨gb202,0,none⟩ = some (.int .i64 0):=(blk_cell BK202.out 0).trans rfl;have hcz90_1 : w88.cell? ⟨gb202,1,none⟩ = some (.string (⟨#[]⟩ : ByteArray)):=(blk_cell BK202.out 1).trans rfl;have hcz90_2 : w88.cell? ⟨gb202,2,none⟩ = some (.int .i64 0):=(blk_cell BK202.out 2).trans rfl;have hcz90_3 : w88.cell? ⟨gb202,3,none⟩ = some (.int .i64 0):=(blk_cell BK202.out 3).trans rfl;have hfz90_0:=blk_frozen BK202.out 0;have hfz90_1:=blk_frozen BK202.out 1;have hfz90_2:=blk_frozen BK202.out 2;have hfz90_3:=blk_frozen BK202.out 3))
                 have n0_ : Aside0 (((((w88.setCell ⟨gb202,0,none⟩ (.int .i64 ((rd_T92 l0_3 x38_2).f0))).setCell ⟨gb202,1,none⟩ (.string ((rd_T92 l0_3 x38_2).f1))).setCell ⟨gb202,2,none⟩ (.int .i64 ((rd_T92 l0_3 x38_2).f2))).setCell ⟨gb202,3,none⟩ (.int .i64 ((rd_T92 l0_3 x38_2).f3))).heap[gb198]? = some (.cells #[.int .i64 a0_0,.slice A0_1 l0_1.length c0_1,.slice A0_2 l0_2.length c0_2,.slice (some ad201) l0_3.length c0_3] 33 (0,0))):=⟨by refine pe_ ?_;refine blk_far ?_ NB198_202.out _;refine pe_ ?_;refine blk_far ?_ NB198_202.out _;refine pe_ ?_;refine blk_far ?_ NB198_202.out _;refine pe_ ?_;refine blk_far ?_ NB198_202.out _;refine pe_ ?_;exact BK198.out⟩
                 have n1_ : Aside0 (((((w88.setCell ⟨gb202,0,none⟩ (.int .i64 ((rd_T92 l0_3 x38_2).f0))).setCell ⟨gb202,1,none⟩ (.string ((rd_T92 l0_3 x38_2).f1))).setCell ⟨gb202,2,none⟩ (.int .i64 ((rd_T92 l0_3 x38_2).f2))).setCell ⟨gb202,3,none⟩ (.int .i64 ((rd_T92 l0_3 x38_2).f3))).heap[gb202]? = some (.cells #[.int .i64 ((rd_T92 l0_3 x38_2).f0),.string ((rd_T92 l0_3 x38_2).f1),.int .i64 ((rd_T92 l0_3 x38_2).f2),.int .i64 ((rd_T92 l0_3 x38_2).f3)] 92 (0,0))):=⟨by refine pe_ ?_;refine blk_put (cs:=#[.int .i64 ((rd_T92 l0_3 x38_2).f0),.string ((rd_T92 l0_3 x38_2).f1),.int .i64 ((rd_T92 l0_3 x38_2).f2),.int .i64 0]) ?_ 3 _ rfl;refine pe_ ?_;refine blk_put (cs:=#[.int .i64 ((rd_T92 l0_3 x38_2).f0),.string ((rd_T92 l0_3 x38_2).f1),.int .i64 0,.int .i64 0]) ?_ 2 _ rfl;refine pe_ ?_;refine blk_put (cs:=#[.int .i64 ((rd_T92 l0_3 x38_2).f0),.string (⟨#[]⟩ : ByteArray),.int .i64 0,.int .i64 0]) ?_ 1 _ rfl;refine pe_ ?_;refine blk_put (cs:=#[.int .i64 0,.string (⟨#[]⟩ : ByteArray),.int .i64 0,.int .i64 0]) ?_ 0 _ rfl;refine pe_ ?_;exact BK202.out⟩
                 have n2_ : Aside0 (Below w.heap.size w ((((w88.setCell ⟨gb202,0,none⟩ (.int .i64 ((rd_T92 l0_3 x38_2).f0))).setCell ⟨gb202,1,none⟩ (.string ((rd_T92 l0_3 x38_2).f1))).setCell ⟨gb202,2,none⟩ (.int .i64 ((rd_T92 l0_3 x38_2).f2))).setCell ⟨gb202,3,none⟩ (.int .i64 ((rd_T92 l0_3 x38_2).f3)))):=⟨be2_ HB.out GE198.out GE202.out⟩
                 (try clear BK198)
                 (try clear BK202)
                 (try clear HB)
                 generalize ((((w88.setCell ⟨gb202,0,none⟩ (.int .i64 ((rd_T92 l0_3 x38_2).f0))).setCell ⟨gb202,1,none⟩ (.string ((rd_T92 l0_3 x38_2).f1))).setCell ⟨gb202,2,none⟩ (.int .i64 ((rd_T92 l0_3 x38_2).f2))).setCell ⟨gb202,3,none⟩ (.int .i64 ((rd_T92 l0_3 x38_2).f3))) = w91 at n0_ n1_ n2_ ⊢
                 have BK198:=n0_
                 have BK202:=n1_
                 have HB:=n2_
                 clear n0_ n1_ n2_
                 have n0_:=Aside0.mk (blk_drew BK198.out)
                 have n1_:=Aside0.mk (blk_drew BK202.out)
                 have n2_:=Aside0.mk (below_drew1 HB.out)
                 clear BK198
                 clear BK202
                 clear HB
                 have BK198:=n0_
                 have BK202:=n1_
                 have HB:=n2_
                 clear n0_ n1_ n2_
                 refine start_ (n:=57) (S:=fun w' => w'.cell? ⟨gb202,0,none⟩ = some (.int .i64 ((rd_T92 l0_3 x38_2).f0)) ∧ w'.cell? ⟨gb202,1,none⟩ = some (.string ((rd_T92 l0_3 x38_2).f1)) ∧ w'.cell? ⟨gb202,2,none⟩ = some (.int .i64 ((rd_T92 l0_3 x38_2).f2)) ∧ w'.cell? ⟨gb202,3,none⟩ = some (.int .i64 ((rd_T92 l0_3 x38_2).f3)) ∧ w'.cell? ⟨gb198,0,none⟩ = some (.int .i64 a0_0) ∧ w'.cell? ⟨gb198,1,none⟩ = some (.slice A0_1 l0_1.length c0_1) ∧ w'.cell? ⟨gb198,2,none⟩ = some (.slice A0_2 l0_2.length c0_2) ∧ w'.cell? ⟨gb198,3,none⟩ = some (.slice (some ad201) l0_3.length c0_3)) (ds:=[]) #[false,false,false,false,false,false,false,false,false,false,false,false,false,false,false,false,false,false,false,false,false,false,false,false,false,false,false,false,false,false,false,false,false,false,false,false,false,false,false,false,false,false,false,false,false,false,false,false,false,false,false,false,false,false,false,false,false] (by kernel_rfl) rfl rfl ⟨(blk_cell BK202.out 0).trans rfl,(blk_cell BK202.out 1).trans rfl,(blk_cell BK202.out 2).trans rfl,(blk_cell BK202.out 3).trans rfl,(blk_cell BK198.out 0).trans rfl,(blk_cell BK198.out 1).trans rfl,(blk_cell BK198.out 2).trans rfl,(blk_cell BK198.out 3).trans rfl⟩ (fun hHeld => ?_);refine with_tabW impl_AutomatonValid.tab6 impl_AutomatonValid.bits6 (fun HT_ HW_ => ?_)
                 generalize w91.drew = w92 at BK198 BK202 HB hHeld ⊢
                 refine stW_ [.p 0 43,.t 1 44,.p 2 45,.p 3 46,.p 4 47,.p 6 49,.t 5 48,.t 7 50,.p 8 51,.p 9 52,.p 10 53,.p 11 54,.t 12 55,.p 13 56,.p 14 57,.p 15 58,.p 16 59,.p 18 61,.t 17 60,.t 19 62,.p 20 63,.p 21 64,.p 22 65,.p 23 66,.t 24 67,.p 25 68,.p 26 69,.p 27 70,.t 28 71,.p 29 72,.p 30 73,.p 31 74,.p 32 75,.p 33 76,.t 34 77,.p 35 78,.p 36 79,.p 37 80,.p 38 81,.t 39 82,.p 40 83,.p 41 84,.p 42 85,.u 43 86,.u 44 87,.u 45 88,.u 46 89,.u 47 90,.u 48 91,.u 49 92,.u 50 93,.u 51 94,.u 52 95,.u 53 96,.u 54 97,.u 55 98,.p 56 99] 57 144115188075855871 57 HT_.out HW_.out hHeld (a':=?_) ?_ rfl (by kernel_rfl) (fun _ _ _ _ h => h) ?_
                 rotate_left
                 ·repeat (first|exact Steps.nil|(refine Steps.u (oi:=?_) (a1:=?_) ?_ ?_ ?_ ?_ ?_;rotate_left 1;rfl;rfl;exact Or.inr ⟨by rfl,rfl⟩;rotate_left;(simp only [Act.put,List.setIfInBounds_toArray,List.set_cons_zero,List.set_cons_succ,i64_w,i32_w];rfl))|(refine Steps.p (oi:=?_) (v:=?_) (a1:=?_) ?_ ?_ ?_ ?_ ?_;rotate_left 2;rfl;rfl;(refine Or.inl ⟨by rfl,?_⟩;intro w';go_simp;with_reducible rfl);rotate_left;(simp only [Act.put,List.setIfInBounds_toArray,List.set_cons_zero,List.set_cons_succ,i64_w,i32_w];rfl))|(refine Steps.t (oi:=?_) (v:=?_) (a1:=?_) ?_ ?_ ?_ ?_ ?_;rotate_left 2;rfl;rfl;(refine Or.inl ⟨by rfl,?_⟩;rintro w' ⟨s0,s1,s2,s3,s4,s5,s6,s7⟩;go_simp;with_reducible rfl);rotate_left;(simp only [Act.put,List.setIfInBounds_toArray,List.set_cons_zero,List.set_cons_succ,i64_w,i32_w];rfl)))
                 refine done_ (done_of HT_.out (by kernel_rfl)) ?_
                 try go_wp2
                 go_ret
                 exact ⟨by first|rfl|(simp [errW_none,errW_some] <;> rfl)|(simp [*,errW_none,errW_some] <;> rfl),be2_ HB.out GE198.out GE202.out⟩
                ·rw [if_neg c87] at H
                 have c87b0 : decide (3 < ((rd_T92 l0_3 x38_2).f3)) = false:=decide_eq_false c87
                 clear c87
                 by_cases c93 : x38_2 > 0
                 ·rw [if_pos c93] at H
                  have c93b0 : decide (0 < x38_2) = true:=decide_eq_true c93
                  clear c93
                  obtain ⟨ji94,hji94⟩ : ∃ j_ : Int,(wrap64 (x38_2 - 1)) = j_:=⟨_,rfl⟩
                  replace H : (if 0 ≤ (ji94) then (if (ji94) < (l0_3.length : Int) then ((impl_stepOrder.f k2 ((rd_T92 l0_3 (ji94)).f0) ((rd_T92 l0_3 (ji94)).f1) ((rd_T92 l0_3 (ji94)).f2) ((rd_T92 l0_3 (ji94)).f3) ((rd_T92 l0_3 x38_2).f0) ((rd_T92 l0_3 x38_2).f1) ((rd_T92 l0_3 x38_2).f2) ((rd_T92 l0_3 x38_2).f3)).bind fun t206 => (if t206 ≥ 0 then (some false) else (impl_AutomatonValid.l0 k2 l0_3 (l0_3.length : Int) (wrap64 (x38_2 + 1)) a0_0 l0_1 l0_2 l0_3))) else (none)) else (none)) = some r:=by first|(rw [hji94] at H;exact H)|(simp only [hji94] at H ⊢;exact H)
                  have hji94w : (IntKind.i64.wrap (x38_2 - 1)) = ji94:=(i64_w _).trans hji94
                  by_cases c95 : 0 ≤ (ji94)
                  ·rw [if_pos c95] at H
                   have c95b0 : decide (0 ≤ (ji94)) = true:=decide_eq_true c95
                   clear c95
                   by_cases c96 : (ji94) < (l0_3.length : Int)
                   ·rw [if_pos c96] at H
                    have c96b0 : decide ((ji94) < (l0_3.length : Int)) = true:=decide_eq_true c96
                    clear c96
                    replace H:=Option.bind_eq_some_iff.mp H
                    obtain ⟨t206,A970,H⟩:=H
                    replace H : (if t206 ≥ 0 then (some false) else (impl_AutomatonValid.l0 k2 l0_3 (l0_3.length : Int) (wrap64 (x38_2 + 1)) a0_0 l0_1 l0_2 l0_3)) = some r:=H
                    have A97:=Aside0.mk A970
                    clear A970
                    by_cases c98 : t206 ≥ 0
                    ·rw [if_pos c98] at H
                     have c98b0 : decide (0 ≤ t206) = true:=decide_eq_true c98
                     clear c98
                     obtain rfl:=Option.some.inj H
                     have p201 : 0 ≤ (x38_2 : Int):=of_decide_eq_true (by first|(with_reducible assumption)|assumption)
                     have q201 : x38_2 < (l0_3.length : Int):=of_decide_eq_true (by first|(with_reducible assumption)|assumption)
                     obtain ⟨ad201,e201,hx201_0,hx201_1,hx201_2,hx201_3⟩:=at_T92 HR0_3.out x38_2 p201 q201
                     cases e201
                     replace hx201_0:=(HB.out.cell (World.block_lt_of_cell? w _ hx201_0)).trans hx201_0
                     replace hx201_1:=(HB.out.cell (World.block_lt_of_cell? w _ hx201_1)).trans hx201_1
                     replace hx201_2:=(HB.out.cell (World.block_lt_of_cell? w _ hx201_2)).trans hx201_2
                     replace hx201_3:=(HB.out.cell (World.block_lt_of_cell? w _ hx201_3)).trans hx201_3
                     replace p201:=eq_true p201
                     replace q201:=eq_true q201
                     try go_wp2_with (first|((with_reducible refine gate_dst (N:=4) rfl ?_);(try (refine gate_guard (by rfl) ?_;dsimp only));refine box_event ?hg (N:=4) ?hd (cs:=#[.int .i64 0,.string (⟨#[]⟩ : ByteArray),.int .i64 0,.int .i64 0]) (t:=92) ?hr ?_;(case hd => rfl);(case hg => rfl);(case hr => first|(go_simp;done)|(go_simp;rfl));intro gb202 hg w99 hbox hb;have n0_:=Aside0.mk (blk_below (g:=gb198) (o:=.cells #[.int .i64 a0_0,.slice A0_1 l0_1.length c0_1,.slice A0_2 l0_2.length c0_2,.slice (some ad201) l0_3.length c0_3] 33 (0,0)) (pe_ BK198.out) hb);have n1_:=Aside0.mk (below_step (be1_ HB.out GE198.out) hb);have n2_:=Aside0.mk (hbox);have n3_:=Aside0.mk ((by rw [hg];exact (below_size (be1_ HB.out GE198.out)) : w.heap.size ≤ gb202));have n4_:=Aside0.mk ((by rw [hg];exact (below_size (be1_ HB.out GE198.out)) : w.heap.size ≤ gb202));have n5_:=Aside0.mk ((by rw [hg];exact Nat.ne_of_lt (blk_lt (g:=gb198) (o:=.cells #[.int .i64 a0_0,.slice A0_1 l0_1.length c0_1,.slice A0_2 l0_2.length c0_2,.slice (some ad201) l0_3.length c0_3] 33 (0,0)) (pe_ BK198.out)) : gb198 ≠ gb202));have n6_:=Aside0.mk ((by rw [hg];exact Nat.ne_of_gt (blk_lt (g:=gb198) (o:=.cells #[.int .i64 a0_0,.slice A0_1 l0_1.length c0_1,.slice A0_2 l0_2.length c0_2,.slice (some ad201) l0_3.length c0_3] 33 (0,0)) (pe_ BK198.out)) : gb202 ≠ gb198));clear BK198;clear HB;have BK198:=n0_;have HB:=n1_;have BK202:=n2_;have GW202:=n3_;have GE202:=n4_;have NB198_202:=n5_;have NB202_198:=n6_;clear n0_ n1_ n2_ n3_ n4_ n5_ n6_;clear hb hbox hg;have hnb100:=NB202_198.out;have hnc100:=NB198_202.out;have hcz101_0 : w99.cell? ⟨gb202,0,none⟩ = some (.int .i64 0):=(blk_cell BK202.out 0).trans rfl;have hcz101_1 : w99.cell? ⟨gb202,1,none⟩ = some (.string (⟨#[]⟩ : ByteArray)):=(blk_cell BK202.out 1).trans rfl;have hcz101_2 : w99.cell? ⟨gb202,2,none⟩ = some (.int .i64 0):=(blk_cell BK202.out 2).trans rfl;have hcz101_3 : w99.cell? ⟨gb202,3,none⟩ = some (.int .i64 0):=(blk_cell BK202.out 3).trans rfl;have hfz101_0:=blk_frozen BK202.out 0;have hfz101_1:=blk_frozen BK202.out 1;have hfz101_2:=blk_frozen BK202.out 2;have hfz101_3:=blk_frozen BK202.out 3))
                     have n0_ : Aside0 (((((w99.setCell ⟨gb202,0,none⟩ (.int .i64 ((rd_T92 l0_3 x38_2).f0))).setCell ⟨gb202,1,none⟩ (.string ((rd_T92 l0_3 x38_2).f1))).setCell ⟨gb202,2,none⟩ (.int .i64 ((rd_T92 l0_3 x38_2).f2))).setCell ⟨gb202,3,none⟩ (.int .i64 ((rd_T92 l0_3 x38_2).f3))).heap[gb198]? = some (.cells #[.int .i64 a0_0,.slice A0_1 l0_1.length c0_1,.slice A0_2 l0_2.length c0_2,.slice (some ad201) l0_3.length c0_3] 33 (0,0))):=⟨by refine pe_ ?_;refine blk_far ?_ NB198_202.out _;refine pe_ ?_;refine blk_far ?_ NB198_202.out _;refine pe_ ?_;refine blk_far ?_ NB198_202.out _;refine pe_ ?_;refine blk_far ?_ NB198_202.out _;refine pe_ ?_;exact BK198.out⟩
                     have n1_ : Aside0 (((((w99.setCell ⟨gb202,0,none⟩ (.int .i64 ((rd_T92 l0_3 x38_2).f0))).setCell ⟨gb202,1,none⟩ (.string ((rd_T92 l0_3 x38_2).f1))).setCell ⟨gb202,2,none⟩ (.int .i64 ((rd_T92 l0_3 x38_2).f2))).setCell ⟨gb202,3,none⟩ (.int .i64 ((rd_T92 l0_3 x38_2).f3))).heap[gb202]? = some (.cells #[.int .i64 ((rd_T92 l0_3 x38_2).f0),.string ((rd_T92 l0_3 x38_2).f1),.int .i64 ((rd_T92 l0_3 x38_2).f2),.int .i64 ((rd_T92 l0_3 x38_2).f3)] 92 (0,0))):=⟨by refine pe_ ?_;refine blk_put (cs:=#[.int .i64 ((rd_T92 l0_3 x38_2).f0),.string ((rd_T92 l0_3 x38_2).f1),.int .i64 ((rd_T92 l0_3 x38_2).f2),.int .i64 0]) ?_ 3 _ rfl;refine pe_ ?_;refine blk_put (cs:=#[.int .i64 ((rd_T92 l0_3 x38_2).f0),.string ((rd_T92 l0_3 x38_2).f1),.int .i64 0,.int .i64 0]) ?_ 2 _ rfl;refine pe_ ?_;refine blk_put (cs:=#[.int .i64 ((rd_T92 l0_3 x38_2).f0),.string (⟨#[]⟩ : ByteArray),.int .i64 0,.int .i64 0]) ?_ 1 _ rfl;refine pe_ ?_;refine blk_put (cs:=#[.int .i64 0,.string (⟨#[]⟩ : ByteArray),.int .i64 0,.int .i64 0]) ?_ 0 _ rfl;refine pe_ ?_;exact BK202.out⟩
                     have n2_ : Aside0 (Below w.heap.size w ((((w99.setCell ⟨gb202,0,none⟩ (.int .i64 ((rd_T92 l0_3 x38_2).f0))).setCell ⟨gb202,1,none⟩ (.string ((rd_T92 l0_3 x38_2).f1))).setCell ⟨gb202,2,none⟩ (.int .i64 ((rd_T92 l0_3 x38_2).f2))).setCell ⟨gb202,3,none⟩ (.int .i64 ((rd_T92 l0_3 x38_2).f3)))):=⟨be2_ HB.out GE198.out GE202.out⟩
                     (try clear BK198)
                     (try clear BK202)
                     (try clear HB)
                     generalize ((((w99.setCell ⟨gb202,0,none⟩ (.int .i64 ((rd_T92 l0_3 x38_2).f0))).setCell ⟨gb202,1,none⟩ (.string ((rd_T92 l0_3 x38_2).f1))).setCell ⟨gb202,2,none⟩ (.int .i64 ((rd_T92 l0_3 x38_2).f2))).setCell ⟨gb202,3,none⟩ (.int .i64 ((rd_T92 l0_3 x38_2).f3))) = w102 at n0_ n1_ n2_ ⊢
                     have BK198:=n0_
                     have BK202:=n1_
                     have HB:=n2_
                     clear n0_ n1_ n2_
                     have n0_:=Aside0.mk (blk_drew BK198.out)
                     have n1_:=Aside0.mk (blk_drew BK202.out)
                     have n2_:=Aside0.mk (below_drew1 HB.out)
                     clear BK198
                     clear BK202
                     clear HB
                     have BK198:=n0_
                     have BK202:=n1_
                     have HB:=n2_
                     clear n0_ n1_ n2_
                     have p205 : 0 ≤ ((ji94) : Int):=of_decide_eq_true (by first|(with_reducible assumption)|assumption)
                     have q205 : (ji94) < (l0_3.length : Int):=of_decide_eq_true (by first|(with_reducible assumption)|assumption)
                     obtain ⟨ad205,e205,hx205_0,hx205_1,hx205_2,hx205_3⟩:=at_T92 HR0_3.out (ji94) p205 q205
                     have hw205_3:=hx205_3
                     have hw205_2:=hx205_2
                     have hw205_1:=hx205_1
                     have hw205_0:=hx205_0
                     obtain rfl : ad201 = ad205:=(by injection e205)
                     replace hx205_0:=(HB.out.cell (World.block_lt_of_cell? w _ hx205_0)).trans hx205_0
                     replace hx205_1:=(HB.out.cell (World.block_lt_of_cell? w _ hx205_1)).trans hx205_1
                     replace hx205_2:=(HB.out.cell (World.block_lt_of_cell? w _ hx205_2)).trans hx205_2
                     replace hx205_3:=(HB.out.cell (World.block_lt_of_cell? w _ hx205_3)).trans hx205_3
                     replace p205:=eq_true p205
                     replace q205:=eq_true q205
                     refine start_ (n:=57) (S:=fun w' => w'.cell? ⟨gb202,0,none⟩ = some (.int .i64 ((rd_T92 l0_3 x38_2).f0)) ∧ w'.cell? ⟨gb202,1,none⟩ = some (.string ((rd_T92 l0_3 x38_2).f1)) ∧ w'.cell? ⟨gb202,2,none⟩ = some (.int .i64 ((rd_T92 l0_3 x38_2).f2)) ∧ w'.cell? ⟨gb202,3,none⟩ = some (.int .i64 ((rd_T92 l0_3 x38_2).f3)) ∧ w'.cell? ⟨gb198,0,none⟩ = some (.int .i64 a0_0) ∧ w'.cell? ⟨gb198,1,none⟩ = some (.slice A0_1 l0_1.length c0_1) ∧ w'.cell? ⟨gb198,2,none⟩ = some (.slice A0_2 l0_2.length c0_2) ∧ w'.cell? ⟨gb198,3,none⟩ = some (.slice (some ad201) l0_3.length c0_3) ∧ w'.cell? (ad201.add (((ji94)).toNat * 4)) = some (.int .i64 ((rd_T92 l0_3 (ji94)).f0)) ∧ w'.cell? ⟨(ad201.add (((ji94)).toNat * 4)).block,(ad201.add (((ji94)).toNat * 4)).off + 1,none⟩ = some (.string ((rd_T92 l0_3 (ji94)).f1)) ∧ w'.cell? ⟨(ad201.add (((ji94)).toNat * 4)).block,(ad201.add (((ji94)).toNat * 4)).off + 2,none⟩ = some (.int .i64 ((rd_T92 l0_3 (ji94)).f2)) ∧ w'.cell? ⟨(ad201.add (((ji94)).toNat * 4)).block,(ad201.add (((ji94)).toNat * 4)).off + 3,none⟩ = some (.int .i64 ((rd_T92 l0_3 (ji94)).f3))) (ds:=[]) #[false,false,false,false,false,false,false,false,false,false,false,false,false,false,false,false,false,false,false,false,false,false,false,false,false,false,false,false,false,false,false,false,false,false,false,false,false,false,false,false,false,false,false,false,false,false,false,false,false,false,false,false,false,false,false,false,false] (by kernel_rfl) rfl rfl ⟨(blk_cell BK202.out 0).trans rfl,(blk_cell BK202.out 1).trans rfl,(blk_cell BK202.out 2).trans rfl,(blk_cell BK202.out 3).trans rfl,(blk_cell BK198.out 0).trans rfl,(blk_cell BK198.out 1).trans rfl,(blk_cell BK198.out 2).trans rfl,(blk_cell BK198.out 3).trans rfl,((HB.out.cell (World.block_lt_of_cell? w _ hw205_0)).trans hw205_0),((HB.out.cell (World.block_lt_of_cell? w _ hw205_1)).trans hw205_1),((HB.out.cell (World.block_lt_of_cell? w _ hw205_2)).trans hw205_2),((HB.out.cell (World.block_lt_of_cell? w _ hw205_3)).trans hw205_3)⟩ (fun hHeld => ?_);refine with_tabW impl_AutomatonValid.tab6 impl_AutomatonValid.bits6 (fun HT_ HW_ => ?_)
                     generalize w102.drew = w103 at BK198 BK202 HB hx205_0 hx205_1 hx205_2 hx205_3 hHeld ⊢
                     refine stW_ [.p 0 43,.t 1 44,.p 2 45,.p 3 46,.p 4 47,.p 6 49,.t 5 48,.t 7 50,.p 8 51,.p 9 52,.p 10 53,.p 11 54,.t 12 55,.p 13 56,.p 14 57,.p 15 58,.p 16 59,.p 18 61,.t 17 60,.t 19 62,.p 20 63,.p 21 64,.p 22 65,.p 23 66,.t 24 67,.p 25 68,.p 26 69,.p 27 70,.t 28 71,.p 29 72,.p 30 73,.p 31 74,.p 32 75,.p 33 76,.t 34 77,.p 35 78,.p 36 79,.p 37 80,.p 38 81,.t 39 82,.p 40 83,.p 41 84,.p 42 85,.p 43 86,.p 44 87,.p 45 88,.p 46 89,.p 48 91,.p 49 92,.t 47 90,.p 50 93,.t 51 94,.t 52 95] 53 9007199254740991 57 HT_.out HW_.out hHeld (a':=?_) ?_ rfl (by kernel_rfl) (fun _ _ _ _ h => h) ?_
                     rotate_left
                     ·repeat (first|exact Steps.nil|(refine Steps.p (oi:=?_) (v:=?_) (a1:=?_) ?_ ?_ ?_ ?_ ?_;rotate_left 2;rfl;rfl;(refine Or.inl ⟨by rfl,?_⟩;intro w';go_simp;with_reducible rfl);rotate_left;(simp only [Act.put,List.setIfInBounds_toArray,List.set_cons_zero,List.set_cons_succ,i64_w,i32_w];rfl))|(refine Steps.t (oi:=?_) (v:=?_) (a1:=?_) ?_ ?_ ?_ ?_ ?_;rotate_left 2;rfl;rfl;(refine Or.inl ⟨by rfl,?_⟩;rintro w' ⟨s0,s1,s2,s3,s4,s5,s6,s7,s8,s9,s10,s11⟩;go_simp;with_reducible rfl);rotate_left;(simp only [Act.put,List.setIfInBounds_toArray,List.set_cons_zero,List.set_cons_succ,i64_w,i32_w];rfl)))
                     refine one_ (i:=53) (N:=some 96) #[true,true,true,true,true,true,true,true,true,true,true,true,true,true,true,true,true,true,true,true,true,true,true,true,true,true,true,true,true,true,true,true,true,true,true,true,true,true,true,true,true,true,true,true,true,true,true,true,true,true,true,true,true,true,false,false,false] rfl rfl (one_of HT_.out (by kernel_rfl)) (by decide) (fun K hK => ?_)
                     refine goes_ Try.func125 (by kernel_rfl) rfl #[.agg #[.int .i64 ((rd_T92 l0_3 (ji94)).f0),.string ((rd_T92 l0_3 (ji94)).f1),.int .i64 ((rd_T92 l0_3 (ji94)).f2),.int .i64 ((rd_T92 l0_3 (ji94)).f3)],.agg #[.int .i64 ((rd_T92 l0_3 x38_2).f0),.string ((rd_T92 l0_3 x38_2).f1),.int .i64 ((rd_T92 l0_3 x38_2).f2),.int .i64 ((rd_T92 l0_3 x38_2).f3)]] (by rfl) rfl rfl (by (try simp only [List.map_toArray,List.map_cons,List.map_nil]);first|done|(simp only [hji94];rfl)|rfl|(simp only [List.length_drop,List.length_take];rfl)) ?_
                     with_reducible refine (impl_stepOrder.calls k2 ((rd_T92 l0_3 (ji94)).f0) ((rd_T92 l0_3 (ji94)).f1) ((rd_T92 l0_3 (ji94)).f2) ((rd_T92 l0_3 (ji94)).f3) ((rd_T92 l0_3 x38_2).f0) ((rd_T92 l0_3 x38_2).f1) ((rd_T92 l0_3 x38_2).f2) ((rd_T92 l0_3 x38_2).f3) t206 _ A97.out).mono ?_
                     rintro e w104 ⟨rfl,hb⟩
                     refine ⟨_,rfl,?_⟩
                     have n0_:=Aside0.mk (blk_below (g:=gb198) (o:=.cells #[.int .i64 a0_0,.slice A0_1 l0_1.length c0_1,.slice A0_2 l0_2.length c0_2,.slice (some ad201) l0_3.length c0_3] 33 (0,0)) (pe_ BK198.out) hb)
                     have n1_:=Aside0.mk (blk_below (g:=gb202) (o:=.cells #[.int .i64 ((rd_T92 l0_3 x38_2).f0),.string ((rd_T92 l0_3 x38_2).f1),.int .i64 ((rd_T92 l0_3 x38_2).f2),.int .i64 ((rd_T92 l0_3 x38_2).f3)] 92 (0,0)) (pe_ BK202.out) hb)
                     have n2_:=Aside0.mk (below_step (be2_ HB.out GE198.out GE202.out) hb)
                     clear BK198
                     clear BK202
                     clear HB
                     have BK198:=n0_
                     have BK202:=n1_
                     have HB:=n2_
                     clear n0_ n1_ n2_
                     (try clear hb)
                     (try clear hb2)
                     (try clear hk)
                     (try clear hi)
                     refine hK.out _ _ ⟨(blk_cell BK202.out 0).trans rfl,(blk_cell BK202.out 1).trans rfl,(blk_cell BK202.out 2).trans rfl,(blk_cell BK202.out 3).trans rfl,(blk_cell BK198.out 0).trans rfl,(blk_cell BK198.out 1).trans rfl,(blk_cell BK198.out 2).trans rfl,(blk_cell BK198.out 3).trans rfl,((HB.out.cell (World.block_lt_of_cell? w _ hw205_0)).trans hw205_0),((HB.out.cell (World.block_lt_of_cell? w _ hw205_1)).trans hw205_1),((HB.out.cell (World.block_lt_of_cell? w _ hw205_2)).trans hw205_2),((HB.out.cell (World.block_lt_of_cell? w _ hw205_3)).trans hw205_3)⟩ (fun hHeld => ?_)
                     clear hK K
                     refine norm_ (a':=?_) ?_ ?_
                     rotate_left
                     ·show Act.put _ (some 96) _ = _
                      simp only [Act.put,List.setIfInBounds_toArray,List.set_cons_zero,List.set_cons_succ,i64_w,i32_w]
                      rfl
                     refine stW_ [.p 54 97,.p 55 98,.p 56 99] 3 144115188075855871 57 HT_.out HW_.out hHeld (a':=?_) ?_ rfl (by kernel_rfl) (fun _ _ _ _ h => h) ?_
                     rotate_left
                     ·repeat (first|exact Steps.nil|(refine Steps.p (oi:=?_) (v:=?_) (a1:=?_) ?_ ?_ ?_ ?_ ?_;rotate_left 2;rfl;rfl;(refine Or.inl ⟨by rfl,?_⟩;intro w';go_simp;with_reducible rfl);rotate_left;(simp only [Act.put,List.setIfInBounds_toArray,List.set_cons_zero,List.set_cons_succ,i64_w,i32_w];rfl)))
                     refine done_ (done_of HT_.out (by kernel_rfl)) ?_
                     try go_wp2
                     go_ret
                     exact ⟨by first|rfl|(simp [errW_none,errW_some] <;> rfl)|(simp only [← hji94];first|rfl|(simp [errW_none,errW_some] <;> rfl))|(simp [*,errW_none,errW_some] <;> rfl),be2_ HB.out GE198.out GE202.out⟩
                    ·rw [if_neg c98] at H
                     have c98b0 : decide (0 ≤ t206) = false:=decide_eq_false c98
                     clear c98
                     have H':=Aside0.mk H
                     clear H
                     have p201 : 0 ≤ (x38_2 : Int):=of_decide_eq_true (by first|(with_reducible assumption)|assumption)
                     have q201 : x38_2 < (l0_3.length : Int):=of_decide_eq_true (by first|(with_reducible assumption)|assumption)
                     obtain ⟨ad201,e201,hx201_0,hx201_1,hx201_2,hx201_3⟩:=at_T92 HR0_3.out x38_2 p201 q201
                     cases e201
                     replace hx201_0:=(HB.out.cell (World.block_lt_of_cell? w _ hx201_0)).trans hx201_0
                     replace hx201_1:=(HB.out.cell (World.block_lt_of_cell? w _ hx201_1)).trans hx201_1
                     replace hx201_2:=(HB.out.cell (World.block_lt_of_cell? w _ hx201_2)).trans hx201_2
                     replace hx201_3:=(HB.out.cell (World.block_lt_of_cell? w _ hx201_3)).trans hx201_3
                     replace p201:=eq_true p201
                     replace q201:=eq_true q201
                     try go_wp2_with (first|((with_reducible refine gate_dst (N:=4) rfl ?_);(try (refine gate_guard (by rfl) ?_;dsimp only));refine box_event ?hg (N:=4) ?hd (cs:=#[.int .i64 0,.string (⟨#[]⟩ : ByteArray),.int .i64 0,.int .i64 0]) (t:=92) ?hr ?_;(case hd => rfl);(case hg => rfl);(case hr => first|(go_simp;done)|(go_simp;rfl));intro gb202 hg w105 hbox hb;have n0_:=Aside0.mk (blk_below (g:=gb198) (o:=.cells #[.int .i64 a0_0,.slice A0_1 l0_1.length c0_1,.slice A0_2 l0_2.length c0_2,.slice (some ad201) l0_3.length c0_3] 33 (0,0)) (pe_ BK198.out) hb);have n1_:=Aside0.mk (below_step (be1_ HB.out GE198.out) hb);have n2_:=Aside0.mk (hbox);have n3_:=Aside0.mk ((by rw [hg];exact (below_size (be1_ HB.out GE198.out)) : w.heap.size ≤ gb202));have n4_:=Aside0.mk ((by rw [hg];exact (below_size (be1_ HB.out GE198.out)) : w.heap.size ≤ gb202));have n5_:=Aside0.mk ((by rw [hg];exact Nat.ne_of_lt (blk_lt (g:=gb198) (o:=.cells #[.int .i64 a0_0,.slice A0_1 l0_1.length c0_1,.slice A0_2 l0_2.length c0_2,.slice (some ad201) l0_3.length c0_3] 33 (0,0)) (pe_ BK198.out)) : gb198 ≠ gb202));have n6_:=Aside0.mk ((by rw [hg];exact Nat.ne_of_gt (blk_lt (g:=gb198) (o:=.cells #[.int .i64 a0_0,.slice A0_1 l0_1.length c0_1,.slice A0_2 l0_2.length c0_2,.slice (some ad201) l0_3.length c0_3] 33 (0,0)) (pe_ BK198.out)) : gb202 ≠ gb198));clear BK198;clear HB;have BK198:=n0_;have HB:=n1_;have BK202:=n2_;have GW202:=n3_;have GE202:=n4_;have NB198_202:=n5_;have NB202_198:=n6_;clear n0_ n1_ n2_ n3_ n4_ n5_ n6_;clear hb hbox hg;have hnb106:=NB202_198.out;have hnc106:=NB198_202.out;have hcz107_0 : w105.cell? ⟨gb202,0,none⟩ = some (.int .i64 0):=(blk_cell BK202.out 0).trans rfl;have hcz107_1 : w105.cell? ⟨gb202,1,none⟩ = some (.string (⟨#[]⟩ : ByteArray)):=(blk_cell BK202.out 1).trans rfl;have hcz107_2 : w105.cell? ⟨gb202,2,none⟩ = some (.int .i64 0):=(blk_cell BK202.out 2).trans rfl;have hcz107_3 : w105.cell? ⟨gb202,3,none⟩ = some (.int .i64 0):=(blk_cell BK202.out 3).trans rfl;have hfz107_0:=blk_frozen BK202.out 0;have hfz107_1:=blk_frozen BK202.out 1;have hfz107_2:=blk_frozen BK202.out 2;have hfz107_3:=blk_frozen BK202.out 3))
                     have n0_ : Aside0 (((((w105.setCell ⟨gb202,0,none⟩ (.int .i64 ((rd_T92 l0_3 x38_2).f0))).setCell ⟨gb202,1,none⟩ (.string ((rd_T92 l0_3 x38_2).f1))).setCell ⟨gb202,2,none⟩ (.int .i64 ((rd_T92 l0_3 x38_2).f2))).setCell ⟨gb202,3,none⟩ (.int .i64 ((rd_T92 l0_3 x38_2).f3))).heap[gb198]? = some (.cells #[.int .i64 a0_0,.slice A0_1 l0_1.length c0_1,.slice A0_2 l0_2.length c0_2,.slice (some ad201) l0_3.length c0_3] 33 (0,0))):=⟨by refine pe_ ?_;refine blk_far ?_ NB198_202.out _;refine pe_ ?_;refine blk_far ?_ NB198_202.out _;refine pe_ ?_;refine blk_far ?_ NB198_202.out _;refine pe_ ?_;refine blk_far ?_ NB198_202.out _;refine pe_ ?_;exact BK198.out⟩
                     have n1_ : Aside0 (((((w105.setCell ⟨gb202,0,none⟩ (.int .i64 ((rd_T92 l0_3 x38_2).f0))).setCell ⟨gb202,1,none⟩ (.string ((rd_T92 l0_3 x38_2).f1))).setCell ⟨gb202,2,none⟩ (.int .i64 ((rd_T92 l0_3 x38_2).f2))).setCell ⟨gb202,3,none⟩ (.int .i64 ((rd_T92 l0_3 x38_2).f3))).heap[gb202]? = some (.cells #[.int .i64 ((rd_T92 l0_3 x38_2).f0),.string ((rd_T92 l0_3 x38_2).f1),.int .i64 ((rd_T92 l0_3 x38_2).f2),.int .i64 ((rd_T92 l0_3 x38_2).f3)] 92 (0,0))):=⟨by refine pe_ ?_;refine blk_put (cs:=#[.int .i64 ((rd_T92 l0_3 x38_2).f0),.string ((rd_T92 l0_3 x38_2).f1),.int .i64 ((rd_T92 l0_3 x38_2).f2),.int .i64 0]) ?_ 3 _ rfl;refine pe_ ?_;refine blk_put (cs:=#[.int .i64 ((rd_T92 l0_3 x38_2).f0),.string ((rd_T92 l0_3 x38_2).f1),.int .i64 0,.int .i64 0]) ?_ 2 _ rfl;refine pe_ ?_;refine blk_put (cs:=#[.int .i64 ((rd_T92 l0_3 x38_2).f0),.string (⟨#[]⟩ : ByteArray),.int .i64 0,.int .i64 0]) ?_ 1 _ rfl;refine pe_ ?_;refine blk_put (cs:=#[.int .i64 0,.string (⟨#[]⟩ : ByteArray),.int .i64 0,.int .i64 0]) ?_ 0 _ rfl;refine pe_ ?_;exact BK202.out⟩
                     have n2_ : Aside0 (Below w.heap.size w ((((w105.setCell ⟨gb202,0,none⟩ (.int .i64 ((rd_T92 l0_3 x38_2).f0))).setCell ⟨gb202,1,none⟩ (.string ((rd_T92 l0_3 x38_2).f1))).setCell ⟨gb202,2,none⟩ (.int .i64 ((rd_T92 l0_3 x38_2).f2))).setCell ⟨gb202,3,none⟩ (.int .i64 ((rd_T92 l0_3 x38_2).f3)))):=⟨be2_ HB.out GE198.out GE202.out⟩
                     (try clear BK198)
                     (try clear BK202)
                     (try clear HB)
                     generalize ((((w105.setCell ⟨gb202,0,none⟩ (.int .i64 ((rd_T92 l0_3 x38_2).f0))).setCell ⟨gb202,1,none⟩ (.string ((rd_T92 l0_3 x38_2).f1))).setCell ⟨gb202,2,none⟩ (.int .i64 ((rd_T92 l0_3 x38_2).f2))).setCell ⟨gb202,3,none⟩ (.int .i64 ((rd_T92 l0_3 x38_2).f3))) = w108 at n0_ n1_ n2_ ⊢
                     have BK198:=n0_
                     have BK202:=n1_
                     have HB:=n2_
                     clear n0_ n1_ n2_
                     have n0_:=Aside0.mk (blk_drew BK198.out)
                     have n1_:=Aside0.mk (blk_drew BK202.out)
                     have n2_:=Aside0.mk (below_drew1 HB.out)
                     clear BK198
                     clear BK202
                     clear HB
                     have BK198:=n0_
                     have BK202:=n1_
                     have HB:=n2_
                     clear n0_ n1_ n2_
                     have p205 : 0 ≤ ((ji94) : Int):=of_decide_eq_true (by first|(with_reducible assumption)|assumption)
                     have q205 : (ji94) < (l0_3.length : Int):=of_decide_eq_true (by first|(with_reducible assumption)|assumption)
                     obtain ⟨ad205,e205,hx205_0,hx205_1,hx205_2,hx205_3⟩:=at_T92 HR0_3.out (ji94) p205 q205
                     have hw205_3:=hx205_3
                     have hw205_2:=hx205_2
                     have hw205_1:=hx205_1
                     have hw205_0:=hx205_0
                     obtain rfl : ad201 = ad205:=(by injection e205)
                     replace hx205_0:=(HB.out.cell (World.block_lt_of_cell? w _ hx205_0)).trans hx205_0
                     replace hx205_1:=(HB.out.cell (World.block_lt_of_cell? w _ hx205_1)).trans hx205_1
                     replace hx205_2:=(HB.out.cell (World.block_lt_of_cell? w _ hx205_2)).trans hx205_2
                     replace hx205_3:=(HB.out.cell (World.block_lt_of_cell? w _ hx205_3)).trans hx205_3
                     replace p205:=eq_true p205
                     replace q205:=eq_true q205
                     refine start_ (n:=57) (S:=fun w' => w'.cell? ⟨gb202,0,none⟩ = some (.int .i64 ((rd_T92 l0_3 x38_2).f0)) ∧ w'.cell? ⟨gb202,1,none⟩ = some (.string ((rd_T92 l0_3 x38_2).f1)) ∧ w'.cell? ⟨gb202,2,none⟩ = some (.int .i64 ((rd_T92 l0_3 x38_2).f2)) ∧ w'.cell? ⟨gb202,3,none⟩ = some (.int .i64 ((rd_T92 l0_3 x38_2).f3)) ∧ w'.cell? ⟨gb198,0,none⟩ = some (.int .i64 a0_0) ∧ w'.cell? ⟨gb198,1,none⟩ = some (.slice A0_1 l0_1.length c0_1) ∧ w'.cell? ⟨gb198,2,none⟩ = some (.slice A0_2 l0_2.length c0_2) ∧ w'.cell? ⟨gb198,3,none⟩ = some (.slice (some ad201) l0_3.length c0_3) ∧ w'.cell? (ad201.add (((ji94)).toNat * 4)) = some (.int .i64 ((rd_T92 l0_3 (ji94)).f0)) ∧ w'.cell? ⟨(ad201.add (((ji94)).toNat * 4)).block,(ad201.add (((ji94)).toNat * 4)).off + 1,none⟩ = some (.string ((rd_T92 l0_3 (ji94)).f1)) ∧ w'.cell? ⟨(ad201.add (((ji94)).toNat * 4)).block,(ad201.add (((ji94)).toNat * 4)).off + 2,none⟩ = some (.int .i64 ((rd_T92 l0_3 (ji94)).f2)) ∧ w'.cell? ⟨(ad201.add (((ji94)).toNat * 4)).block,(ad201.add (((ji94)).toNat * 4)).off + 3,none⟩ = some (.int .i64 ((rd_T92 l0_3 (ji94)).f3))) (ds:=[]) #[false,false,false,false,false,false,false,false,false,false,false,false,false,false,false,false,false,false,false,false,false,false,false,false,false,false,false,false,false,false,false,false,false,false,false,false,false,false,false,false,false,false,false,false,false,false,false,false,false,false,false,false,false,false,false,false,false] (by kernel_rfl) rfl rfl ⟨(blk_cell BK202.out 0).trans rfl,(blk_cell BK202.out 1).trans rfl,(blk_cell BK202.out 2).trans rfl,(blk_cell BK202.out 3).trans rfl,(blk_cell BK198.out 0).trans rfl,(blk_cell BK198.out 1).trans rfl,(blk_cell BK198.out 2).trans rfl,(blk_cell BK198.out 3).trans rfl,((HB.out.cell (World.block_lt_of_cell? w _ hw205_0)).trans hw205_0),((HB.out.cell (World.block_lt_of_cell? w _ hw205_1)).trans hw205_1),((HB.out.cell (World.block_lt_of_cell? w _ hw205_2)).trans hw205_2),((HB.out.cell (World.block_lt_of_cell? w _ hw205_3)).trans hw205_3)⟩ (fun hHeld => ?_);refine with_tabW impl_AutomatonValid.tab6 impl_AutomatonValid.bits6 (fun HT_ HW_ => ?_)
                     generalize w108.drew = w109 at BK198 BK202 HB hx205_0 hx205_1 hx205_2 hx205_3 hHeld ⊢
                     refine stW_ [.p 0 43,.t 1 44,.p 2 45,.p 3 46,.p 4 47,.p 6 49,.t 5 48,.t 7 50,.p 8 51,.p 9 52,.p 10 53,.p 11 54,.t 12 55,.p 13 56,.p 14 57,.p 15 58,.p 16 59,.p 18 61,.t 17 60,.t 19 62,.p 20 63,.p 21 64,.p 22 65,.p 23 66,.t 24 67,.p 25 68,.p 26 69,.p 27 70,.t 28 71,.p 29 72,.p 30 73,.p 31 74,.p 32 75,.p 33 76,.t 34 77,.p 35 78,.p 36 79,.p 37 80,.p 38 81,.t 39 82,.p 40 83,.p 41 84,.p 42 85,.p 43 86,.p 44 87,.p 45 88,.p 46 89,.p 48 91,.p 49 92,.t 47 90,.p 50 93,.t 51 94,.t 52 95] 53 9007199254740991 57 HT_.out HW_.out hHeld (a':=?_) ?_ rfl (by kernel_rfl) (fun _ _ _ _ h => h) ?_
                     rotate_left
                     ·repeat (first|exact Steps.nil|(refine Steps.p (oi:=?_) (v:=?_) (a1:=?_) ?_ ?_ ?_ ?_ ?_;rotate_left 2;rfl;rfl;(refine Or.inl ⟨by rfl,?_⟩;intro w';go_simp;with_reducible rfl);rotate_left;(simp only [Act.put,List.setIfInBounds_toArray,List.set_cons_zero,List.set_cons_succ,i64_w,i32_w];rfl))|(refine Steps.t (oi:=?_) (v:=?_) (a1:=?_) ?_ ?_ ?_ ?_ ?_;rotate_left 2;rfl;rfl;(refine Or.inl ⟨by rfl,?_⟩;rintro w' ⟨s0,s1,s2,s3,s4,s5,s6,s7,s8,s9,s10,s11⟩;go_simp;with_reducible rfl);rotate_left;(simp only [Act.put,List.setIfInBounds_toArray,List.set_cons_zero,List.set_cons_succ,i64_w,i32_w];rfl)))
                     refine one_ (i:=53) (N:=some 96) #[true,true,true,true,true,true,true,true,true,true,true,true,true,true,true,true,true,true,true,true,true,true,true,true,true,true,true,true,true,true,true,true,true,true,true,true,true,true,true,true,true,true,true,true,true,true,true,true,true,true,true,true,true,true,false,false,false] rfl rfl (one_of HT_.out (by kernel_rfl)) (by decide) (fun K hK => ?_)
                     refine goes_ Try.func125 (by kernel_rfl) rfl #[.agg #[.int .i64 ((rd_T92 l0_3 (ji94)).f0),.string ((rd_T92 l0_3 (ji94)).f1),.int .i64 ((rd_T92 l0_3 (ji94)).f2),.int .i64 ((rd_T92 l0_3 (ji94)).f3)],.agg #[.int .i64 ((rd_T92 l0_3 x38_2).f0),.string ((rd_T92 l0_3 x38_2).f1),.int .i64 ((rd_T92 l0_3 x38_2).f2),.int .i64 ((rd_T92 l0_3 x38_2).f3)]] (by rfl) rfl rfl (by (try simp only [List.map_toArray,List.map_cons,List.map_nil]);first|done|(simp only [hji94];rfl)|rfl|(simp only [List.length_drop,List.length_take];rfl)) ?_
                     with_reducible refine (impl_stepOrder.calls k2 ((rd_T92 l0_3 (ji94)).f0) ((rd_T92 l0_3 (ji94)).f1) ((rd_T92 l0_3 (ji94)).f2) ((rd_T92 l0_3 (ji94)).f3) ((rd_T92 l0_3 x38_2).f0) ((rd_T92 l0_3 x38_2).f1) ((rd_T92 l0_3 x38_2).f2) ((rd_T92 l0_3 x38_2).f3) t206 _ A97.out).mono ?_
                     rintro e w110 ⟨rfl,hb⟩
                     refine ⟨_,rfl,?_⟩
                     have n0_:=Aside0.mk (blk_below (g:=gb198) (o:=.cells #[.int .i64 a0_0,.slice A0_1 l0_1.length c0_1,.slice A0_2 l0_2.length c0_2,.slice (some ad201) l0_3.length c0_3] 33 (0,0)) (pe_ BK198.out) hb)
                     have n1_:=Aside0.mk (blk_below (g:=gb202) (o:=.cells #[.int .i64 ((rd_T92 l0_3 x38_2).f0),.string ((rd_T92 l0_3 x38_2).f1),.int .i64 ((rd_T92 l0_3 x38_2).f2),.int .i64 ((rd_T92 l0_3 x38_2).f3)] 92 (0,0)) (pe_ BK202.out) hb)
                     have n2_:=Aside0.mk (below_step (be2_ HB.out GE198.out GE202.out) hb)
                     clear BK198
                     clear BK202
                     clear HB
                     have BK198:=n0_
                     have BK202:=n1_
                     have HB:=n2_
                     clear n0_ n1_ n2_
                     (try clear hb)
                     (try clear hb2)
                     (try clear hk)
                     (try clear hi)
                     refine hK.out _ _ ⟨(blk_cell BK202.out 0).trans rfl,(blk_cell BK202.out 1).trans rfl,(blk_cell BK202.out 2).trans rfl,(blk_cell BK202.out 3).trans rfl,(blk_cell BK198.out 0).trans rfl,(blk_cell BK198.out 1).trans rfl,(blk_cell BK198.out 2).trans rfl,(blk_cell BK198.out 3).trans rfl,((HB.out.cell (World.block_lt_of_cell? w _ hw205_0)).trans hw205_0),((HB.out.cell (World.block_lt_of_cell? w _ hw205_1)).trans hw205_1),((HB.out.cell (World.block_lt_of_cell? w _ hw205_2)).trans hw205_2),((HB.out.cell (World.block_lt_of_cell? w _ hw205_3)).trans hw205_3)⟩ (fun hHeld => ?_)
                     clear hK K
                     refine norm_ (a':=?_) ?_ ?_
                     rotate_left
                     ·show Act.put _ (some 96) _ = _
                      simp only [Act.put,List.setIfInBounds_toArray,List.set_cons_zero,List.set_cons_succ,i64_w,i32_w]
                      rfl
                     refine stW_ [.p 54 97,.p 55 98,.p 56 99] 3 144115188075855871 57 HT_.out HW_.out hHeld (a':=?_) ?_ rfl (by kernel_rfl) (fun _ _ _ _ h => h) ?_
                     rotate_left
                     ·repeat (first|exact Steps.nil|(refine Steps.p (oi:=?_) (v:=?_) (a1:=?_) ?_ ?_ ?_ ?_ ?_;rotate_left 2;rfl;rfl;(refine Or.inl ⟨by rfl,?_⟩;intro w';go_simp;with_reducible rfl);rotate_left;(simp only [Act.put,List.setIfInBounds_toArray,List.set_cons_zero,List.set_cons_succ,i64_w,i32_w];rfl)))
                     refine done_ (done_of HT_.out (by kernel_rfl)) ?_
                     try go_wp2
                     go_roundg k2
                     case measure => have:=HJ1.out;have:=HK2.out;omega
                     case rel => exact ⟨(wrap64 (x38_2 + 1)),(by first|rfl|(simp;done)|(simp [*];done)),H',⟨by have:=HJ1.out;have:=HK2.out;omega⟩,⟨pe_ BK198.out⟩,⟨be2_ HB.out GE198.out GE202.out⟩⟩
                   ·rw [if_neg c96] at H
                    exact absurd H (by simp)
                  ·rw [if_neg c95] at H
                   exact absurd H (by simp)
                 ·rw [if_neg c93] at H
                  have c93b0 : decide (0 < x38_2) = false:=decide_eq_false c93
                  clear c93
                  have H':=Aside0.mk H
                  clear H
                  have p201 : 0 ≤ (x38_2 : Int):=of_decide_eq_true (by first|(with_reducible assumption)|assumption)
                  have q201 : x38_2 < (l0_3.length : Int):=of_decide_eq_true (by first|(with_reducible assumption)|assumption)
                  obtain ⟨ad201,e201,hx201_0,hx201_1,hx201_2,hx201_3⟩:=at_T92 HR0_3.out x38_2 p201 q201
                  cases e201
                  replace hx201_0:=(HB.out.cell (World.block_lt_of_cell? w _ hx201_0)).trans hx201_0
                  replace hx201_1:=(HB.out.cell (World.block_lt_of_cell? w _ hx201_1)).trans hx201_1
                  replace hx201_2:=(HB.out.cell (World.block_lt_of_cell? w _ hx201_2)).trans hx201_2
                  replace hx201_3:=(HB.out.cell (World.block_lt_of_cell? w _ hx201_3)).trans hx201_3
                  replace p201:=eq_true p201
                  replace q201:=eq_true q201
                  try go_wp2_with (first|((with_reducible refine gate_dst (N:=4) rfl ?_);(try (refine gate_guard (by rfl) ?_;dsimp only));refine box_event ?hg (N:=4) ?hd (cs:=#[.int .i64 0,.string (⟨#[]⟩ : ByteArray),.int .i64 0,.int .i64 0]) (t:=92) ?hr ?_;(case hd => rfl);(case hg => rfl);(case hr => first|(go_simp;done)|(go_simp;rfl));intro gb202 hg w111 hbox hb;have n0_:=Aside0.mk (blk_below (g:=gb198) (o:=.cells #[.int .i64 a0_0,.slice A0_1 l0_1.length c0_1,.slice A0_2 l0_2.length c0_2,.slice (some ad201) l0_3.length c0_3] 33 (0,0)) (pe_ BK198.out) hb);have n1_:=Aside0.mk (below_step (be1_ HB.out GE198.out) hb);have n2_:=Aside0.mk (hbox);have n3_:=Aside0.mk ((by rw [hg];exact (below_size (be1_ HB.out GE198.out)) : w.heap.size ≤ gb202));have n4_:=Aside0.mk ((by rw [hg];exact (below_size (be1_ HB.out GE198.out)) : w.heap.size ≤ gb202));have n5_:=Aside0.mk ((by rw [hg];exact Nat.ne_of_lt (blk_lt (g:=gb198) (o:=.cells #[.int .i64 a0_0,.slice A0_1 l0_1.length c0_1,.slice A0_2 l0_2.length c0_2,.slice (some ad201) l0_3.length c0_3] 33 (0,0)) (pe_ BK198.out)) : gb198 ≠ gb202));have n6_:=Aside0.mk ((by rw [hg];exact Nat.ne_of_gt (blk_lt (g:=gb198) (o:=.cells #[.int .i64 a0_0,.slice A0_1 l0_1.length c0_1,.slice A0_2 l0_2.length c0_2,.slice (some ad201) l0_3.length c0_3] 33 (0,0)) (pe_ BK198.out)) : gb202 ≠ gb198));clear BK198;clear HB;have BK198:=n0_;have HB:=n1_;have BK202:=n2_;have GW202:=n3_;have GE202:=n4_;have NB198_202:=n5_;have NB202_198:=n6_;clear n0_ n1_ n2_ n3_ n4_ n5_ n6_;clear hb hbox hg;have hnb112:=NB202_198.out;have hnc112:=NB198_202.out;have hcz113_0 : w111.cell? ⟨gb202,0,none⟩ = some (.int .i64 0):=(blk_cell BK202.out 0).trans rfl;have hcz113_1 : w111.cell? ⟨gb202,1,none⟩ = some (.string (⟨#[]⟩ : ByteArray)):=(blk_cell BK202.out 1).trans rfl;have hcz113_2 : w111.cell? ⟨gb202,2,none⟩ = some (.int .i64 0):=(blk_cell BK202.out 2).trans rfl;have hcz113_3 : w111.cell? ⟨gb202,3,none⟩ = some (.int .i64 0):=(blk_cell BK202.out 3).trans rfl;have hfz113_0:=blk_frozen BK202.out 0;have hfz113_1:=blk_frozen BK202.out 1;have hfz113_2:=blk_frozen BK202.out 2;have hfz113_3:=blk_frozen BK202.out 3))
                  have n0_ : Aside0 (((((w111.setCell ⟨gb202,0,none⟩ (.int .i64 ((rd_T92 l0_3 x38_2).f0))).setCell ⟨gb202,1,none⟩ (.string ((rd_T92 l0_3 x38_2).f1))).setCell ⟨gb202,2,none⟩ (.int .i64 ((rd_T92 l0_3 x38_2).f2))).setCell ⟨gb202,3,none⟩ (.int .i64 ((rd_T92 l0_3 x38_2).f3))).heap[gb198]? = some (.cells #[.int .i64 a0_0,.slice A0_1 l0_1.length c0_1,.slice A0_2 l0_2.length c0_2,.slice (some ad201) l0_3.length c0_3] 33 (0,0))):=⟨by refine pe_ ?_;refine blk_far ?_ NB198_202.out _;refine pe_ ?_;refine blk_far ?_ NB198_202.out _;refine pe_ ?_;refine blk_far ?_ NB198_202.out _;refine pe_ ?_;refine blk_far ?_ NB198_202.out _;refine pe_ ?_;exact BK198.out⟩
                  have n1_ : Aside0 (((((w111.setCell ⟨gb202,0,none⟩ (.int .i64 ((rd_T92 l0_3 x38_2).f0))).setCell ⟨gb202,1,none⟩ (.string ((rd_T92 l0_3 x38_2).f1))).setCell ⟨gb202,2,none⟩ (.int .i64 ((rd_T92 l0_3 x38_2).f2))).setCell ⟨gb202,3,none⟩ (.int .i64 ((rd_T92 l0_3 x38_2).f3))).heap[gb202]? = some (.cells #[.int .i64 ((rd_T92 l0_3 x38_2).f0),.string ((rd_T92 l0_3 x38_2).f1),.int .i64 ((rd_T92 l0_3 x38_2).f2),.int .i64 ((rd_T92 l0_3 x38_2).f3)] 92 (0,0))):=⟨by refine pe_ ?_;refine blk_put (cs:=#[.int .i64 ((rd_T92 l0_3 x38_2).f0),.string ((rd_T92 l0_3 x38_2).f1),.int .i64 ((rd_T92 l0_3 x38_2).f2),.int .i64 0]) ?_ 3 _ rfl;refine pe_ ?_;refine blk_put (cs:=#[.int .i64 ((rd_T92 l0_3 x38_2).f0),.string ((rd_T92 l0_3 x38_2).f1),.int .i64 0,.int .i64 0]) ?_ 2 _ rfl;refine pe_ ?_;refine blk_put (cs:=#[.int .i64 ((rd_T92 l0_3 x38_2).f0),.string (⟨#[]⟩ : ByteArray),.int .i64 0,.int .i64 0]) ?_ 1 _ rfl;refine pe_ ?_;refine blk_put (cs:=#[.int .i64 0,.string (⟨#[]⟩ : ByteArray),.int .i64 0,.int .i64 0]) ?_ 0 _ rfl;refine pe_ ?_;exact BK202.out⟩
                  have n2_ : Aside0 (Below w.heap.size w ((((w111.setCell ⟨gb202,0,none⟩ (.int .i64 ((rd_T92 l0_3 x38_2).f0))).setCell ⟨gb202,1,none⟩ (.string ((rd_T92 l0_3 x38_2).f1))).setCell ⟨gb202,2,none⟩ (.int .i64 ((rd_T92 l0_3 x38_2).f2))).setCell ⟨gb202,3,none⟩ (.int .i64 ((rd_T92 l0_3 x38_2).f3)))):=⟨be2_ HB.out GE198.out GE202.out⟩
                  (try clear BK198)
                  (try clear BK202)
                  (try clear HB)
                  generalize ((((w111.setCell ⟨gb202,0,none⟩ (.int .i64 ((rd_T92 l0_3 x38_2).f0))).setCell ⟨gb202,1,none⟩ (.string ((rd_T92 l0_3 x38_2).f1))).setCell ⟨gb202,2,none⟩ (.int .i64 ((rd_T92 l0_3 x38_2).f2))).setCell ⟨gb202,3,none⟩ (.int .i64 ((rd_T92 l0_3 x38_2).f3))) = w114 at n0_ n1_ n2_ ⊢
                  have BK198:=n0_
                  have BK202:=n1_
                  have HB:=n2_
                  clear n0_ n1_ n2_
                  have n0_:=Aside0.mk (blk_drew BK198.out)
                  have n1_:=Aside0.mk (blk_drew BK202.out)
                  have n2_:=Aside0.mk (below_drew1 HB.out)
                  clear BK198
                  clear BK202
                  clear HB
                  have BK198:=n0_
                  have BK202:=n1_
                  have HB:=n2_
                  clear n0_ n1_ n2_
                  refine start_ (n:=57) (S:=fun w' => w'.cell? ⟨gb202,0,none⟩ = some (.int .i64 ((rd_T92 l0_3 x38_2).f0)) ∧ w'.cell? ⟨gb202,1,none⟩ = some (.string ((rd_T92 l0_3 x38_2).f1)) ∧ w'.cell? ⟨gb202,2,none⟩ = some (.int .i64 ((rd_T92 l0_3 x38_2).f2)) ∧ w'.cell? ⟨gb202,3,none⟩ = some (.int .i64 ((rd_T92 l0_3 x38_2).f3)) ∧ w'.cell? ⟨gb198,0,none⟩ = some (.int .i64 a0_0) ∧ w'.cell? ⟨gb198,1,none⟩ = some (.slice A0_1 l0_1.length c0_1) ∧ w'.cell? ⟨gb198,2,none⟩ = some (.slice A0_2 l0_2.length c0_2) ∧ w'.cell? ⟨gb198,3,none⟩ = some (.slice (some ad201) l0_3.length c0_3)) (ds:=[]) #[false,false,false,false,false,false,false,false,false,false,false,false,false,false,false,false,false,false,false,false,false,false,false,false,false,false,false,false,false,false,false,false,false,false,false,false,false,false,false,false,false,false,false,false,false,false,false,false,false,false,false,false,false,false,false,false,false] (by kernel_rfl) rfl rfl ⟨(blk_cell BK202.out 0).trans rfl,(blk_cell BK202.out 1).trans rfl,(blk_cell BK202.out 2).trans rfl,(blk_cell BK202.out 3).trans rfl,(blk_cell BK198.out 0).trans rfl,(blk_cell BK198.out 1).trans rfl,(blk_cell BK198.out 2).trans rfl,(blk_cell BK198.out 3).trans rfl⟩ (fun hHeld => ?_);refine with_tabW impl_AutomatonValid.tab6 impl_AutomatonValid.bits6 (fun HT_ HW_ => ?_)
                  generalize w114.drew = w115 at BK198 BK202 HB hHeld ⊢
                  refine stW_ [.p 0 43,.t 1 44,.p 2 45,.p 3 46,.p 4 47,.p 6 49,.t 5 48,.t 7 50,.p 8 51,.p 9 52,.p 10 53,.p 11 54,.t 12 55,.p 13 56,.p 14 57,.p 15 58,.p 16 59,.p 18 61,.t 17 60,.t 19 62,.p 20 63,.p 21 64,.p 22 65,.p 23 66,.t 24 67,.p 25 68,.p 26 69,.p 27 70,.t 28 71,.p 29 72,.p 30 73,.p 31 74,.p 32 75,.p 33 76,.t 34 77,.p 35 78,.p 36 79,.p 37 80,.p 38 81,.t 39 82,.p 40 83,.p 41 84,.p 42 85,.p 43 86,.p 44 87,.p 45 88,.u 46 89,.u 47 90,.u 48 91,.u 49 92,.u 50 93,.u 51 94,.u 52 95,.u 53 96,.u 54 97,.p 55 98,.p 56 99] 57 144115188075855871 57 HT_.out HW_.out hHeld (a':=?_) ?_ rfl (by kernel_rfl) (fun _ _ _ _ h => h) ?_
                  rotate_left
                  ·repeat (first|exact Steps.nil|(refine Steps.u (oi:=?_) (a1:=?_) ?_ ?_ ?_ ?_ ?_;rotate_left 1;rfl;rfl;exact Or.inr ⟨by rfl,rfl⟩;rotate_left;(simp only [Act.put,List.setIfInBounds_toArray,List.set_cons_zero,List.set_cons_succ,i64_w,i32_w];rfl))|(refine Steps.p (oi:=?_) (v:=?_) (a1:=?_) ?_ ?_ ?_ ?_ ?_;rotate_left 2;rfl;rfl;(refine Or.inl ⟨by rfl,?_⟩;intro w';go_simp;with_reducible rfl);rotate_left;(simp only [Act.put,List.setIfInBounds_toArray,List.set_cons_zero,List.set_cons_succ,i64_w,i32_w];rfl))|(refine Steps.t (oi:=?_) (v:=?_) (a1:=?_) ?_ ?_ ?_ ?_ ?_;rotate_left 2;rfl;rfl;(refine Or.inl ⟨by rfl,?_⟩;rintro w' ⟨s0,s1,s2,s3,s4,s5,s6,s7⟩;go_simp;with_reducible rfl);rotate_left;(simp only [Act.put,List.setIfInBounds_toArray,List.set_cons_zero,List.set_cons_succ,i64_w,i32_w];rfl)))
                  refine done_ (done_of HT_.out (by kernel_rfl)) ?_
                  try go_wp2
                  go_roundg k2
                  case measure => have:=HJ1.out;have:=HK2.out;omega
                  case rel => exact ⟨(wrap64 (x38_2 + 1)),(by first|rfl|(simp;done)|(simp [*];done)),H',⟨by have:=HJ1.out;have:=HK2.out;omega⟩,⟨pe_ BK198.out⟩,⟨be2_ HB.out GE198.out GE202.out⟩⟩
              ·rw [if_neg c80] at H
               have c80b0 : (((rd_T92 l0_3 x38_2).f1).toList == ([98] : List UInt8)) = false:=beq_eq_false_iff_ne.mpr c80
               have c80b1 : (((rd_T92 l0_3 x38_2).f1).toList != ([98] : List UInt8)) = true:=bne_iff_ne.mpr c80
               obtain rfl:=Option.some.inj H
               have p201 : 0 ≤ (x38_2 : Int):=of_decide_eq_true (by first|(with_reducible assumption)|assumption)
               have q201 : x38_2 < (l0_3.length : Int):=of_decide_eq_true (by first|(with_reducible assumption)|assumption)
               obtain ⟨ad201,e201,hx201_0,hx201_1,hx201_2,hx201_3⟩:=at_T92 HR0_3.out x38_2 p201 q201
               cases e201
               replace hx201_0:=(HB.out.cell (World.block_lt_of_cell? w _ hx201_0)).trans hx201_0
               replace hx201_1:=(HB.out.cell (World.block_lt_of_cell? w _ hx201_1)).trans hx201_1
               replace hx201_2:=(HB.out.cell (World.block_lt_of_cell? w _ hx201_2)).trans hx201_2
               replace hx201_3:=(HB.out.cell (World.block_lt_of_cell? w _ hx201_3)).trans hx201_3
               replace p201:=eq_true p201
               replace q201:=eq_true q201
               try go_wp2_with (first|((with_reducible refine gate_dst (N:=4) rfl ?_);(try (refine gate_guard (by rfl) ?_;dsimp only));refine box_event ?hg (N:=4) ?hd (cs:=#[.int .i64 0,.string (⟨#[]⟩ : ByteArray),.int .i64 0,.int .i64 0]) (t:=92) ?hr ?_;(case hd => rfl);(case hg => rfl);(case hr => first|(go_simp;done)|(go_simp;rfl));intro gb202 hg w116 hbox hb;have n0_:=Aside0.mk (blk_below (g:=gb198) (o:=.cells #[.int .i64 a0_0,.slice A0_1 l0_1.length c0_1,.slice A0_2 l0_2.length c0_2,.slice (some ad201) l0_3.length c0_3] 33 (0,0)) (pe_ BK198.out) hb);have n1_:=Aside0.mk (below_step (be1_ HB.out GE198.out) hb);have n2_:=Aside0.mk (hbox);have n3_:=Aside0.mk ((by rw [hg];exact (below_size (be1_ HB.out GE198.out)) : w.heap.size ≤ gb202));have n4_:=Aside0.mk ((by rw [hg];exact (below_size (be1_ HB.out GE198.out)) : w.heap.size ≤ gb202));have n5_:=Aside0.mk ((by rw [hg];exact Nat.ne_of_lt (blk_lt (g:=gb198) (o:=.cells #[.int .i64 a0_0,.slice A0_1 l0_1.length c0_1,.slice A0_2 l0_2.length c0_2,.slice (some ad201) l0_3.length c0_3] 33 (0,0)) (pe_ BK198.out)) : gb198 ≠ gb202));have n6_:=Aside0.mk ((by rw [hg];exact Nat.ne_of_gt (blk_lt (g:=gb198) (o:=.cells #[.int .i64 a0_0,.slice A0_1 l0_1.length c0_1,.slice A0_2 l0_2.length c0_2,.slice (some ad201) l0_3.length c0_3] 33 (0,0)) (pe_ BK198.out)) : gb202 ≠ gb198));clear BK198;clear HB;have BK198:=n0_;have HB:=n1_;have BK202:=n2_;have GW202:=n3_;have GE202:=n4_;have NB198_202:=n5_;have NB202_198:=n6_;clear n0_ n1_ n2_ n3_ n4_ n5_ n6_;clear hb hbox hg;have hnb117:=NB202_198.out;have hnc117:=NB198_202.out;have hcz118_0 : w116.cell? ⟨gb202,0,none⟩ = some (.int .i64 0):=(blk_cell BK202.out 0).trans rfl;have hcz118_1 : w116.cell? ⟨gb202,1,none⟩ = some (.string (⟨#[]⟩ : ByteArray)):=(blk_cell BK202.out 1).trans rfl;have hcz118_2 : w116.cell? ⟨gb202,2,none⟩ = some (.int .i64 0):=(blk_cell BK202.out 2).trans rfl;have hcz118_3 : w116.cell? ⟨gb202,3,none⟩ = some (.int .i64 0):=(blk_cell BK202.out 3).trans rfl;have hfz118_0:=blk_frozen BK202.out 0;have hfz118_1:=blk_frozen BK202.out 1;have hfz118_2:=blk_frozen BK202.out 2;have hfz118_3:=blk_frozen BK202.out 3))
               have n0_ : Aside0 (((((w116.setCell ⟨gb202,0,none⟩ (.int .i64 ((rd_T92 l0_3 x38_2).f0))).setCell ⟨gb202,1,none⟩ (.string ((rd_T92 l0_3 x38_2).f1))).setCell ⟨gb202,2,none⟩ (.int .i64 ((rd_T92 l0_3 x38_2).f2))).setCell ⟨gb202,3,none⟩ (.int .i64 ((rd_T92 l0_3 x38_2).f3))).heap[gb198]? = some (.cells #[.int .i64 a0_0,.slice A0_1 l0_1.length c0_1,.slice A0_2 l0_2.length c0_2,.slice (some ad201) l0_3.length c0_3] 33 (0,0))):=⟨by refine pe_ ?_;refine blk_far ?_ NB198_202.out _;refine pe_ ?_;refine blk_far ?_ NB198_202.out _;refine pe_ ?_;refine blk_far ?_ NB198_202.out _;refine pe_ ?_;refine blk_far ?_ NB198_202.out _;refine pe_ ?_;exact BK198.out⟩
               have n1_ : Aside0 (((((w116.setCell ⟨gb202,0,none⟩ (.int .i64 ((rd_T92 l0_3 x38_2).f0))).setCell ⟨gb202,1,none⟩ (.string ((rd_T92 l0_3 x38_2).f1))).setCell ⟨gb202,2,none⟩ (.int .i64 ((rd_T92 l0_3 x38_2).f2))).setCell ⟨gb202,3,none⟩ (.int .i64 ((rd_T92 l0_3 x38_2).f3))).heap[gb202]? = some (.cells #[.int .i64 ((rd_T92 l0_3 x38_2).f0),.string ((rd_T92 l0_3 x38_2).f1),.int .i64 ((rd_T92 l0_3 x38_2).f2),.int .i64 ((rd_T92 l0_3 x38_2).f3)] 92 (0,0))):=⟨by refine pe_ ?_;refine blk_put (cs:=#[.int .i64 ((rd_T92 l0_3 x38_2).f0),.string ((rd_T92 l0_3 x38_2).f1),.int .i64 ((rd_T92 l0_3 x38_2).f2),.int .i64 0]) ?_ 3 _ rfl;refine pe_ ?_;refine blk_put (cs:=#[.int .i64 ((rd_T92 l0_3 x38_2).f0),.string ((rd_T92 l0_3 x38_2).f1),.int .i64 0,.int .i64 0]) ?_ 2 _ rfl;refine pe_ ?_;refine blk_put (cs:=#[.int .i64 ((rd_T92 l0_3 x38_2).f0),.string (⟨#[]⟩ : ByteArray),.int .i64 0,.int .i64 0]) ?_ 1 _ rfl;refine pe_ ?_;refine blk_put (cs:=#[.int .i64 0,.string (⟨#[]⟩ : ByteArray),.int .i64 0,.int .i64 0]) ?_ 0 _ rfl;refine pe_ ?_;exact BK202.out⟩
               have n2_ : Aside0 (Below w.heap.size w ((((w116.setCell ⟨gb202,0,none⟩ (.int .i64 ((rd_T92 l0_3 x38_2).f0))).setCell ⟨gb202,1,none⟩ (.string ((rd_T92 l0_3 x38_2).f1))).setCell ⟨gb202,2,none⟩ (.int .i64 ((rd_T92 l0_3 x38_2).f2))).setCell ⟨gb202,3,none⟩ (.int .i64 ((rd_T92 l0_3 x38_2).f3)))):=⟨be2_ HB.out GE198.out GE202.out⟩
               (try clear BK198)
               (try clear BK202)
               (try clear HB)
               generalize ((((w116.setCell ⟨gb202,0,none⟩ (.int .i64 ((rd_T92 l0_3 x38_2).f0))).setCell ⟨gb202,1,none⟩ (.string ((rd_T92 l0_3 x38_2).f1))).setCell ⟨gb202,2,none⟩ (.int .i64 ((rd_T92 l0_3 x38_2).f2))).setCell ⟨gb202,3,none⟩ (.int .i64 ((rd_T92 l0_3 x38_2).f3))) = w119 at n0_ n1_ n2_ ⊢
               have BK198:=n0_
               have BK202:=n1_
               have HB:=n2_
               clear n0_ n1_ n2_
               have n0_:=Aside0.mk (blk_drew BK198.out)
               have n1_:=Aside0.mk (blk_drew BK202.out)
               have n2_:=Aside0.mk (below_drew1 HB.out)
               clear BK198
               clear BK202
               clear HB
               have BK198:=n0_
               have BK202:=n1_
               have HB:=n2_
               clear n0_ n1_ n2_
               refine start_ (n:=57) (S:=fun w' => w'.cell? ⟨gb202,0,none⟩ = some (.int .i64 ((rd_T92 l0_3 x38_2).f0)) ∧ w'.cell? ⟨gb202,1,none⟩ = some (.string ((rd_T92 l0_3 x38_2).f1)) ∧ w'.cell? ⟨gb202,2,none⟩ = some (.int .i64 ((rd_T92 l0_3 x38_2).f2)) ∧ w'.cell? ⟨gb202,3,none⟩ = some (.int .i64 ((rd_T92 l0_3 x38_2).f3)) ∧ w'.cell? ⟨gb198,0,none⟩ = some (.int .i64 a0_0) ∧ w'.cell? ⟨gb198,1,none⟩ = some (.slice A0_1 l0_1.length c0_1) ∧ w'.cell? ⟨gb198,2,none⟩ = some (.slice A0_2 l0_2.length c0_2) ∧ w'.cell? ⟨gb198,3,none⟩ = some (.slice (some ad201) l0_3.length c0_3)) (ds:=[]) #[false,false,false,false,false,false,false,false,false,false,false,false,false,false,false,false,false,false,false,false,false,false,false,false,false,false,false,false,false,false,false,false,false,false,false,false,false,false,false,false,false,false,false,false,false,false,false,false,false,false,false,false,false,false,false,false,false] (by kernel_rfl) rfl rfl ⟨(blk_cell BK202.out 0).trans rfl,(blk_cell BK202.out 1).trans rfl,(blk_cell BK202.out 2).trans rfl,(blk_cell BK202.out 3).trans rfl,(blk_cell BK198.out 0).trans rfl,(blk_cell BK198.out 1).trans rfl,(blk_cell BK198.out 2).trans rfl,(blk_cell BK198.out 3).trans rfl⟩ (fun hHeld => ?_);refine with_tabW impl_AutomatonValid.tab6 impl_AutomatonValid.bits6 (fun HT_ HW_ => ?_)
               generalize w119.drew = w120 at BK198 BK202 HB hHeld ⊢
               refine stW_ [.p 0 43,.t 1 44,.p 2 45,.p 3 46,.p 4 47,.p 6 49,.t 5 48,.t 7 50,.p 8 51,.p 9 52,.p 10 53,.p 11 54,.t 12 55,.p 13 56,.p 14 57,.p 15 58,.p 16 59,.p 18 61,.t 17 60,.t 19 62,.p 20 63,.p 21 64,.p 22 65,.p 23 66,.t 24 67,.p 25 68,.p 26 69,.p 27 70,.t 28 71,.p 29 72,.p 30 73,.p 31 74,.p 32 75,.u 33 76,.u 34 77,.u 35 78,.p 36 79,.p 37 80,.u 38 81,.u 39 82,.u 40 83,.p 41 84,.p 42 85,.u 43 86,.u 44 87,.u 45 88,.u 46 89,.u 47 90,.u 48 91,.u 49 92,.u 50 93,.u 51 94,.u 52 95,.u 53 96,.u 54 97,.u 55 98,.p 56 99] 57 144115188075855871 57 HT_.out HW_.out hHeld (a':=?_) ?_ rfl (by kernel_rfl) (fun _ _ _ _ h => h) ?_
               rotate_left
               ·repeat (first|exact Steps.nil|(refine Steps.u (oi:=?_) (a1:=?_) ?_ ?_ ?_ ?_ ?_;rotate_left 1;rfl;rfl;exact Or.inr ⟨by rfl,rfl⟩;rotate_left;(simp only [Act.put,List.setIfInBounds_toArray,List.set_cons_zero,List.set_cons_succ,i64_w,i32_w];rfl))|(refine Steps.p (oi:=?_) (v:=?_) (a1:=?_) ?_ ?_ ?_ ?_ ?_;rotate_left 2;rfl;rfl;(refine Or.inl ⟨by rfl,?_⟩;intro w';go_simp;with_reducible rfl);rotate_left;(simp only [Act.put,List.setIfInBounds_toArray,List.set_cons_zero,List.set_cons_succ,i64_w,i32_w];rfl))|(refine Steps.t (oi:=?_) (v:=?_) (a1:=?_) ?_ ?_ ?_ ?_ ?_;rotate_left 2;rfl;rfl;(refine Or.inl ⟨by rfl,?_⟩;rintro w' ⟨s0,s1,s2,s3,s4,s5,s6,s7⟩;go_simp;with_reducible rfl);rotate_left;(simp only [Act.put,List.setIfInBounds_toArray,List.set_cons_zero,List.set_cons_succ,i64_w,i32_w];rfl)))
               refine done_ (done_of HT_.out (by kernel_rfl)) ?_
               try go_wp2
               go_ret
               exact ⟨by first|rfl|(simp [errW_none,errW_some] <;> rfl)|(simp [*,errW_none,errW_some] <;> rfl),be2_ HB.out GE198.out GE202.out⟩
        ·rw [if_neg c19] at H
         exact absurd H (by simp)
       ·rw [if_neg c18] at H
        exact absurd H (by simp)
      ·rw [if_neg c17] at H
       have c17b0 : decide (x38_2 < (l0_3.length : Int)) = false:=decide_eq_false c17
       clear c17
       obtain rfl:=Option.some.inj H
       go_wp2
       go_ret
       exact ⟨by first|rfl|(simp [errW_none,errW_some] <;> rfl)|(simp [*,errW_none,errW_some] <;> rfl),be1_ HB.out GE198.out⟩
end Go.Proofs.Ytfmbpoojpnoafaa.X
end
section
namespace Go.Proofs.Ytfmbpoojpnoafaa.X
open Go.RowKit Go.Proofs.YtfmbpoojpnoafaaW.PrintWords Go.Proofs.YtfmbpoojpnoafaaW.PrintLast Go.Proofs.YtfmbpoojpnoafaaW.PrintMore
attribute [local go_sem] max2_int min2_int max_two min_two max_three min_three max_four min_four
set_option linter.unusedVariables false
set_option linter.unusedSimpArgs false
def impl_CostValid.f (a0 : Int) : Option (Bool):=if a0 ≥ 0 then (some (decide (a0 ≤ 1000000))) else (some false)
set_option maxHeartbeats 8000000 in
set_option maxRecDepth 100000 in
theorem impl_CostValid.calls (a0 : Int) (r : Bool) (w : World) (h : impl_CostValid.f a0 = some r) :
  Calls Try.prog 164 #[.int .i64 a0] w fun e w' => e = .returned (.bool r) ∧ Drawn0 w w':=by
 have H : (if a0 ≥ 0 then (some (decide (a0 ≤ 1000000))) else (some false)) = some r:=h
 clear h
 by_cases c2 : a0 ≥ 0
 ·rw [if_pos c2] at H
  have c2b0 : decide (0 ≤ a0) = true:=decide_eq_true c2
  clear c2
  obtain rfl:=Option.some.inj H
  go_enter Try.func164,Try.ntmps164
  go_wp2
  go_ret
  exact ⟨by first|rfl|(simp;done)|(simp [*];done),by repeat (first|exact Drawn0.refl _|apply Drawn0.step)⟩
 ·rw [if_neg c2] at H
  have c2b0 : decide (0 ≤ a0) = false:=decide_eq_false c2
  clear c2
  obtain rfl:=Option.some.inj H
  go_enter Try.func164,Try.ntmps164
  go_wp2
  go_ret
  exact ⟨by first|rfl|(simp;done)|(simp [*];done),by repeat (first|exact Drawn0.refl _|apply Drawn0.step)⟩
end Go.Proofs.Ytfmbpoojpnoafaa.X
end
section
namespace Go.Proofs.Ytfmbpoojpnoafaa.X
open Go.RowKit Go.Proofs.YtfmbpoojpnoafaaW.PrintWords Go.Proofs.YtfmbpoojpnoafaaW.PrintLast Go.Proofs.YtfmbpoojpnoafaaW.PrintMore
attribute [local go_sem] max2_int min2_int max_two min_two max_three min_three max_four min_four
set_option linter.unusedVariables false
set_option linter.unusedSimpArgs false
def impl_MatrixValid_1.f (a0 : Int) : Option (Bool):=(impl_CostValid.f a0).bind fun t209 => (some (!t209))
set_option maxHeartbeats 8000000 in
set_option maxRecDepth 100000 in
theorem impl_MatrixValid_1.calls (a0 : Int) (r : Bool) (w : World) (h : impl_MatrixValid_1.f a0 = some r) :
  Calls Try.prog 163 #[.int .i64 a0] w fun e w' => e = .returned (.bool r) ∧ Drawn0 w w':=by
 have H : ((impl_CostValid.f a0).bind fun t209 => (some (!t209))) = some r:=h
 clear h
 replace H:=Option.bind_eq_some_iff.mp H
 obtain ⟨t209,A20,H⟩:=H
 replace H : (some (!t209)) = some r:=H
 have A2:=Aside0.mk A20
 clear A20
 obtain rfl:=Option.some.inj H
 go_enter Try.func163,Try.ntmps163
 go_wp2_with (first|((with_reducible refine gate_callee (f:=164) rfl ?_);refine goesL_ (some 4) rfl rfl Try.func164 (by kernel_rfl) rfl #[.int .i64 a0] rfl lp_ ?_;(with_reducible refine (impl_CostValid.calls a0 t209 _ A2.out).mono ?_);rintro e w' ⟨rfl,⟨nd,rfl⟩⟩;refine ⟨_,rfl,?_⟩))
 go_ret
 exact ⟨by first|rfl|(simp;done)|(simp [*];done),by repeat (first|exact Drawn0.refl _|apply Drawn0.step)⟩
end Go.Proofs.Ytfmbpoojpnoafaa.X
end
section
namespace Go.Proofs.Ytfmbpoojpnoafaa.X
open Go.RowKit Go.Proofs.YtfmbpoojpnoafaaW.PrintWords Go.Proofs.YtfmbpoojpnoafaaW.PrintLast Go.Proofs.YtfmbpoojpnoafaaW.PrintMore
attribute [local go_sem] max2_int min2_int max_two min_two max_three min_three max_four min_four
set_option linter.unusedVariables false
set_option linter.unusedSimpArgs false
def slices_IndexFunc_int_int.l0 (p1 : Int → Option (Bool)) : Nat → List Int → Int → Int → Option (Int)
 | 0,_,_,_ => none
 | k + 1,x0,x7,x8 => if x8 < x7 then (if 0 ≤ x8 then (if x8 < (x0.length : Int) then ((p1 (rd x0 x8)).bind fun t208 => (if t208 = true then (some x8) else (slices_IndexFunc_int_int.l0 p1 k x0 x7 (wrap64 (x8 + 1))))) else (none)) else (none)) else (some (-1))
def slices_IndexFunc_int_int.f (p1 : Int → Option (Bool)) (k : Nat) (l0 : List Int)  : Option (Int):=slices_IndexFunc_int_int.l0 p1 k l0 (l0.length : Int) 0
theorem slices_IndexFunc_int_int.mono_l (p1 : Int → Option (Bool)) : ∀ k,(∀ y0 y1 y2,LeO (slices_IndexFunc_int_int.l0 p1 k y0 y1 y2) (slices_IndexFunc_int_int.l0 p1 (k + 1) y0 y1 y2))
 | 0 => fun _ _ _ r h => by simp [slices_IndexFunc_int_int.l0] at h
 | k + 1 => by
  have ih0:=slices_IndexFunc_int_int.mono_l p1 k
  ·intro y0 y1 y2
   unfold slices_IndexFunc_int_int.l0
   repeat' first
   | (with_reducible exact ih0 _ _ _)
   | (with_reducible exact LeO.refl _)
   | (with_reducible exact LeO.none _)
   | (with_reducible refine LeO.ite ?_ ?_)
   | (with_reducible refine LeO.bind ?_ (fun _ => ?_))
   | exact ih0 _ _ _
   | exact LeO.none _
   | refine LeO.ite ?_ ?_
   | refine LeO.bind ?_ (fun _ => ?_)
theorem slices_IndexFunc_int_int.mono (p1 : Int → Option (Bool)) : ∀ a0 k,LeO (slices_IndexFunc_int_int.f p1 k a0) (slices_IndexFunc_int_int.f p1 (k + 1) a0):=by
 intro a0 k
 have ih0:=slices_IndexFunc_int_int.mono_l p1 k
 unfold slices_IndexFunc_int_int.f
 repeat' first
   | (with_reducible exact ih0 _ _ _)
   | (with_reducible exact LeO.refl _)
   | (with_reducible exact LeO.none _)
   | (with_reducible refine LeO.ite ?_ ?_)
   | (with_reducible refine LeO.bind ?_ (fun _ => ?_))
   | exact ih0 _ _ _
   | exact LeO.none _
   | refine LeO.ite ?_ ?_
   | refine LeO.bind ?_ (fun _ => ?_)
set_option maxHeartbeats 8000000 in
set_option maxRecDepth 100000 in
theorem slices_IndexFunc_int_int.calls (k : Nat) (A0 : Option Addr) (c0 : Nat) (l0 : List Int) (q1 : FuncId) (F1 C1 : Array Value) (p1 : Int → Option (Bool)) (r : Int) (w : World) (hr0 : Kd.C (Kd.int .i64) w A0 l0.length l0) (hc0 : l0.length ≤ c0) (hq1 : FnAt Try.prog q1) (hp1 : ∀ (ay0 : Int) (z0 : Bool) (W_ : World),Below w.heap.size w W_ → p1 ay0 = some z0 → Calls Try.prog q1 (F1 ++ #[.int .i64 ay0] ++ C1) W_ fun e w' => e = .returned (.bool z0) ∧ Below W_.heap.size W_ w') (h : slices_IndexFunc_int_int.f p1 k l0 = some r) :
  Calls Try.prog 165 #[.slice A0 l0.length c0,.func (.func q1) F1 C1] w fun e w' => e = .returned (.int .i64 r) ∧ Below w.heap.size w w':=by
 have HR0:=Aside0.mk hr0
 have HC0:=Aside0.mk hc0
 clear hr0 hc0
 have HQ1:=Aside0.mk hq1
 have HP1:=Aside0.mk hp1
 clear hq1 hp1
 have HB:=Aside0.mk (Below.refl w.heap.size w)
 have H : (slices_IndexFunc_int_int.l0 p1 k l0 (l0.length : Int) 0) = some r:=h
 clear h
 have H':=Aside0.mk H
 clear H
 go_enter Try.func165,Try.ntmps165
 go_wp2
 go_loopg [8] k (fun kq v8 w' => ∃ (x8_1 : Int),v8 = .int .i64 x8_1 ∧ Aside0 (slices_IndexFunc_int_int.l0 p1 kq l0 (l0.length : Int) x8_1 = some r) ∧ Aside0 (kq ≤ k) ∧ Aside0 (Below w.heap.size w w'))
 case atStart => exact ⟨(0),(by first|rfl|(simp;done)|(simp [*];done)),H',⟨Nat.le_refl _⟩,⟨be0_ HB.out⟩⟩
 case round =>
  clear H'
  try clear c1
  try clear p1
  try clear q1
  try clear p2
  obtain ⟨x8_1,rfl,HA,HK1,HB⟩:=hrel
  cases gk with
  | zero => exact absurd HA.out (by simp [slices_IndexFunc_int_int.l0])
  | succ k1 =>
   have H:=HA.out
   clear HA
   simp only [slices_IndexFunc_int_int.l0] at H
   by_cases c3 : x8_1 < (l0.length : Int)
   ·rw [if_pos c3] at H
    have c3b0 : decide (x8_1 < (l0.length : Int)) = true:=decide_eq_true c3
    clear c3
    by_cases c4 : 0 ≤ x8_1
    ·rw [if_pos c4] at H
     have c4b0 : decide (0 ≤ x8_1) = true:=decide_eq_true c4
     clear c4
     by_cases c5 : x8_1 < (l0.length : Int)
     ·rw [if_pos c5] at H
      have c5b0 : decide (x8_1 < (l0.length : Int)) = true:=decide_eq_true c5
      clear c5
      replace H:=Option.bind_eq_some_iff.mp H
      obtain ⟨t208,A60,H⟩:=H
      replace H : (if t208 = true then (some x8_1) else (slices_IndexFunc_int_int.l0 p1 k1 l0 (l0.length : Int) (wrap64 (x8_1 + 1)))) = some r:=H
      have A6:=Aside0.mk A60
      clear A60
      by_cases c7 : t208 = true
      ·subst c7
       have H1 : (some x8_1) = some r:=by rw [if_pos rfl] at H;exact H
       clear H
       have H:=H1
       clear H1
       obtain rfl:=Option.some.inj H
       have p207 : 0 ≤ (x8_1 : Int):=of_decide_eq_true (by first|(with_reducible assumption)|assumption)
       have q207 : x8_1 < (l0.length : Int):=of_decide_eq_true (by first|(with_reducible assumption)|assumption)
       obtain ⟨ad207,e207,hx207_0⟩:=Kd.at_int HR0.out x8_1 p207 q207
       cases e207
       replace hx207_0:=(HB.out.cell (World.block_lt_of_cell? w _ hx207_0)).trans hx207_0
       replace p207:=eq_true p207
       replace q207:=eq_true q207
       go_wp2_with (first|((with_reducible refine gate_dyn rfl ?_);refine goesLD_ (some 16) rfl rfl HQ1.out #[.int .i64 (rd l0 x8_1)] rfl rfl lp_ ?_;(with_reducible refine (HP1.out (rd l0 x8_1) true _ ?side1 A6.out).mono ?_);(case side1 => repeat (first|(with_reducible first|exact HB.out|apply below_alloc|apply pw_below_drewN|apply below_drew1)|exact HB.out));rintro e w8 ⟨rfl,hb⟩;refine ⟨_,rfl,?_⟩;have n0_:=Aside0.mk (below_step (be0_ HB.out) hb);clear HB;have HB:=n0_;clear n0_;(try clear hb);(try clear hb2);(try clear hk);(try clear hi)))
       go_ret
       exact ⟨by first|rfl|(simp [errW_none,errW_some] <;> rfl)|(simp [*,errW_none,errW_some] <;> rfl),be0_ HB.out⟩
      ·replace c7:=Bool.eq_false_iff.mpr c7
       subst c7
       have H1 : (slices_IndexFunc_int_int.l0 p1 k1 l0 (l0.length : Int) (wrap64 (x8_1 + 1))) = some r:=by rw [if_neg (show ¬ (false = true) by decide)] at H;exact H
       clear H
       have H:=H1
       clear H1
       have H':=Aside0.mk H
       clear H
       have p207 : 0 ≤ (x8_1 : Int):=of_decide_eq_true (by first|(with_reducible assumption)|assumption)
       have q207 : x8_1 < (l0.length : Int):=of_decide_eq_true (by first|(with_reducible assumption)|assumption)
       obtain ⟨ad207,e207,hx207_0⟩:=Kd.at_int HR0.out x8_1 p207 q207
       cases e207
       replace hx207_0:=(HB.out.cell (World.block_lt_of_cell? w _ hx207_0)).trans hx207_0
       replace p207:=eq_true p207
       replace q207:=eq_true q207
       go_wp2_with (first|((with_reducible refine gate_dyn rfl ?_);refine goesLD_ (some 16) rfl rfl HQ1.out #[.int .i64 (rd l0 x8_1)] rfl rfl lp_ ?_;(with_reducible refine (HP1.out (rd l0 x8_1) false _ ?side1 A6.out).mono ?_);(case side1 => repeat (first|(with_reducible first|exact HB.out|apply below_alloc|apply pw_below_drewN|apply below_drew1)|exact HB.out));rintro e w9 ⟨rfl,hb⟩;refine ⟨_,rfl,?_⟩;have n0_:=Aside0.mk (below_step (be0_ HB.out) hb);clear HB;have HB:=n0_;clear n0_;(try clear hb);(try clear hb2);(try clear hk);(try clear hi)))
       go_roundg k1
       case measure => have:=HK1.out;omega
       case rel => exact ⟨(wrap64 (x8_1 + 1)),(by first|rfl|(simp;done)|(simp [*];done)),H',⟨by have:=HK1.out;omega⟩,⟨be0_ HB.out⟩⟩
     ·rw [if_neg c5] at H
      exact absurd H (by simp)
    ·rw [if_neg c4] at H
     exact absurd H (by simp)
   ·rw [if_neg c3] at H
    have c3b0 : decide (x8_1 < (l0.length : Int)) = false:=decide_eq_false c3
    clear c3
    obtain rfl:=Option.some.inj H
    go_wp2
    go_ret
    exact ⟨by first|rfl|(simp [errW_none,errW_some] <;> rfl)|(simp [*,errW_none,errW_some] <;> rfl),be0_ HB.out⟩
theorem slices_IndexFunc_int_int.monoP_l {p p' : Int → Option (Bool)} (hp : ∀ y0,LeO (p y0) (p' y0)) : ∀ k,(∀ y0 y1 y2,LeO (slices_IndexFunc_int_int.l0 p k y0 y1 y2) (slices_IndexFunc_int_int.l0 p' k y0 y1 y2))
 | 0 => by
  skip
  all_goals (intros;intro r h;first|(simp [slices_IndexFunc_int_int.l0] at h;done)|(unfold slices_IndexFunc_int_int.l0 at h;simp at h;done))
 | k + 1 => by
  have ih:=slices_IndexFunc_int_int.monoP_l hp k
  have ih0:=ih
  ·intro y0 y1 y2
   unfold slices_IndexFunc_int_int.l0
   repeat'
    first
    | (with_reducible exact LeO.refl _)
    | (with_reducible exact LeO.none _)
    | (with_reducible exact ih0 _ _ _)
    | (with_reducible exact hp _)
    | (with_reducible refine LeO.ite ?_ ?_)
    | (with_reducible refine LeO.bind ?_ (fun _ => ?_))
    | exact hp _
    | exact LeO.refl _
theorem slices_IndexFunc_int_int.monoP {p p' : Int → Option (Bool)} (hp : ∀ y0,LeO (p y0) (p' y0)) : ∀ a0 k,LeO (slices_IndexFunc_int_int.f p k a0) (slices_IndexFunc_int_int.f p' (k + 1) a0):=by
 intro a0 k
 refine LeO.trans ?_ (slices_IndexFunc_int_int.mono p' a0 k)
 have ih:=slices_IndexFunc_int_int.monoP_l hp k
 have ih0:=ih
 unfold slices_IndexFunc_int_int.f
 repeat'
  first
  | (with_reducible exact LeO.refl _)
  | (with_reducible exact LeO.none _)
  | (with_reducible exact ih0 _ _ _)
  | (with_reducible exact hp _)
  | (with_reducible refine LeO.ite ?_ ?_)
  | (with_reducible refine LeO.bind ?_ (fun _ => ?_))
  | exact hp _
  | exact LeO.refl _
end Go.Proofs.Ytfmbpoojpnoafaa.X
end
section
namespace Go.Proofs.Ytfmbpoojpnoafaa.X
open Go.RowKit Go.Proofs.YtfmbpoojpnoafaaW.PrintWords Go.Proofs.YtfmbpoojpnoafaaW.PrintLast Go.Proofs.YtfmbpoojpnoafaaW.PrintMore
attribute [local go_sem] max2_int min2_int max_two min_two max_three min_three max_four min_four
set_option linter.unusedVariables false
set_option linter.unusedSimpArgs false
def slices_ContainsFunc_int_int.f (p1 : Int → Option (Bool)) (k : Nat) (l0 : List Int) : Option (Bool):=(slices_IndexFunc_int_int.f p1 k l0).bind fun t => some (decide (t ≥ 0))
theorem slices_ContainsFunc_int_int.mono (p1 : Int → Option (Bool)) : ∀ a0 k,LeO (slices_ContainsFunc_int_int.f p1 k a0) (slices_ContainsFunc_int_int.f p1 (k + 1) a0):=by
 intro a0 k
 unfold slices_ContainsFunc_int_int.f
 exact LeO.bind (slices_IndexFunc_int_int.mono p1 _ _) (fun _ => LeO.refl _)
theorem slices_ContainsFunc_int_int.monoP {p p' : Int → Option (Bool)} (hp : ∀ y0,LeO (p y0) (p' y0)) : ∀ a0 k,LeO (slices_ContainsFunc_int_int.f p k a0) (slices_ContainsFunc_int_int.f p' (k + 1) a0):=by
 intro a0 k
 unfold slices_ContainsFunc_int_int.f
 exact LeO.bind (slices_IndexFunc_int_int.monoP hp _ _) (fun _ => LeO.refl _)
set_option maxHeartbeats 8000000 in
theorem slices_ContainsFunc_int_int.calls (k : Nat) (A0 : Option Addr) (c0 : Nat) (l0 : List Int) (q1 : FuncId) (F1 C1 : Array Value) (p1 : Int → Option (Bool)) (r : Bool) (w : World) (hr0 : Kd.C (Kd.int .i64) w A0 l0.length l0) (hc0 : l0.length ≤ c0) (hq1 : FnAt Try.prog q1) (hp1 : ∀ (ay0 : Int) (z0 : Bool) (W_ : World),Below w.heap.size w W_ → p1 ay0 = some z0 → Calls Try.prog q1 (F1 ++ #[.int .i64 ay0] ++ C1) W_ fun e w' => e = .returned (.bool z0) ∧ Below W_.heap.size W_ w') (h : slices_ContainsFunc_int_int.f p1 k l0 = some r) :
  Calls Try.prog 127 #[.slice A0 l0.length c0,.func (.func q1) F1 C1] w fun e w' => e = .returned (.bool r) ∧ Below w.heap.size w w':=by
 obtain ⟨t,h1,h2⟩:=Option.bind_eq_some_iff.mp h
 have C:=Aside0.mk (slices_IndexFunc_int_int.calls k A0 c0 l0 q1 F1 C1 p1 t w hr0 hc0 hq1 hp1 h1)
 clear h hr0 hc0 hq1 hp1 h1
 obtain rfl:=Option.some.inj h2
 clear h2
 go_enter Try.func127,Try.ntmps127
 go_wp2_with (first|((with_reducible refine gate_callee (f:=165) rfl ?_);refine goesL_ (some 7) rfl rfl Try.func165 (by kernel_rfl) rfl #[.slice A0 l0.length c0,.func (.func q1) F1 C1] rfl (by (try simp only [List.map_toArray,List.map_cons,List.map_nil]);first|done|rfl) ?_;refine C.out.mono ?_;rintro e w' ⟨rfl,hb⟩;have HB:=Aside0.mk hb;clear hb;refine ⟨_,rfl,?_⟩))
 go_ret
 exact ⟨by first|rfl|(simp;done)|(simp [*];done),HB.out⟩
end Go.Proofs.Ytfmbpoojpnoafaa.X
end
section
namespace Go.Proofs.Ytfmbpoojpnoafaa.X
open Go.RowKit Go.Proofs.YtfmbpoojpnoafaaW.PrintWords Go.Proofs.YtfmbpoojpnoafaaW.PrintLast Go.Proofs.YtfmbpoojpnoafaaW.PrintMore
attribute [local go_sem] max2_int min2_int max_two min_two max_three min_three max_four min_four
set_option linter.unusedVariables false
set_option linter.unusedSimpArgs false
def slices_ContainsFunc_int_int__impl_MatrixValid_1.f (k : Nat) (l0 : List Int) : Option (Bool):=slices_ContainsFunc_int_int.f (fun y0 => impl_MatrixValid_1.f  y0 ) k l0
theorem slices_ContainsFunc_int_int__impl_MatrixValid_1.mono : ∀ b0 k,LeO (slices_ContainsFunc_int_int__impl_MatrixValid_1.f k b0) (slices_ContainsFunc_int_int__impl_MatrixValid_1.f (k + 1) b0):=by
 intro b0 k
 exact slices_ContainsFunc_int_int.monoP (fun _ => LeO.refl _) _ k
set_option maxHeartbeats 2000000 in
theorem slices_ContainsFunc_int_int__impl_MatrixValid_1.calls (k : Nat) (A0 : Option Addr) (c0 : Nat) (l0 : List Int) (r : Bool) (w : World) (hr0 : Kd.C (Kd.int .i64) w A0 l0.length l0) (hc0 : l0.length ≤ c0) (h : slices_ContainsFunc_int_int__impl_MatrixValid_1.f k l0 = some r) :
  Calls Try.prog 127 #[.slice A0 l0.length c0,.func (.func 163) #[] #[]] w fun e w' => e = .returned (.bool r) ∧ Below w.heap.size w w':=by
 refine slices_ContainsFunc_int_int.calls k A0 c0 l0 163 #[] #[] (fun y0 => impl_MatrixValid_1.f  y0 ) r w hr0 hc0 ⟨_,Try.func163,rfl,rfl⟩ ?_ h
 intro ay0 z0 W_ hB_  h_
 refine calls_of_args (args':=#[.int .i64 ay0]) (by simp) ?_
 refine (impl_MatrixValid_1.calls ay0 z0 W_  h_).mono ?_
 rintro e w' ⟨rfl,hd⟩
 exact ⟨rfl,hd.below⟩
end Go.Proofs.Ytfmbpoojpnoafaa.X
end
section
namespace Go.Proofs.Ytfmbpoojpnoafaa.X
open Go.RowKit Go.Proofs.YtfmbpoojpnoafaaW.PrintWords Go.Proofs.YtfmbpoojpnoafaaW.PrintLast Go.Proofs.YtfmbpoojpnoafaaW.PrintMore
attribute [local go_sem] max2_int min2_int max_two min_two max_three min_three max_four min_four
set_option linter.unusedVariables false
set_option linter.unusedSimpArgs false
def impl_MatrixValid.f (k : Nat) (a0_0 : Int) (l0_1 : List Int) : Option (Bool):=if a0_0 < 1 then (some false) else (if a0_0 > 4 then (some false) else (if (l0_1.length : Int) = (wrap64 (a0_0 * a0_0)) then ((slices_ContainsFunc_int_int__impl_MatrixValid_1.f k l0_1).bind fun t211 => (some (!t211))) else (some false)))
theorem impl_MatrixValid.mono : ∀ a0 a1 k,LeO (impl_MatrixValid.f k a0 a1) (impl_MatrixValid.f (k + 1) a0 a1):=by
 intro a0 a1 k
 unfold impl_MatrixValid.f
 repeat' first
   | (with_reducible exact slices_ContainsFunc_int_int__impl_MatrixValid_1.mono _ _)
   | (with_reducible exact LeO.refl _)
   | (with_reducible exact LeO.none _)
   | (with_reducible refine LeO.ite ?_ ?_)
   | (with_reducible refine LeO.bind ?_ (fun _ => ?_))
   | exact slices_ContainsFunc_int_int__impl_MatrixValid_1.mono _ _
   | exact LeO.none _
   | refine LeO.ite ?_ ?_
   | refine LeO.bind ?_ (fun _ => ?_)
set_option maxHeartbeats 8000000 in
set_option maxRecDepth 100000 in
theorem impl_MatrixValid.calls (k : Nat) (a0_0 : Int) (A0_1 : Option Addr) (c0_1 : Nat) (l0_1 : List Int) (r : Bool) (w : World) (hr0_1 : Kd.C (Kd.int .i64) w A0_1 l0_1.length l0_1) (hc0_1 : l0_1.length ≤ c0_1) (h : impl_MatrixValid.f k a0_0 l0_1 = some r) :
  Calls Try.prog 126 #[.agg #[.int .i64 a0_0,.slice A0_1 l0_1.length c0_1]] w fun e w' => e = .returned (.bool r) ∧ Below w.heap.size w w':=by
 have hu35:=Try.underlying35
 have HR0_1:=Aside0.mk hr0_1
 have HC0_1:=Aside0.mk hc0_1
 clear hr0_1 hc0_1
 have HB:=Aside0.mk (Below.refl w.heap.size w)
 have H : (if a0_0 < 1 then (some false) else (if a0_0 > 4 then (some false) else (if (l0_1.length : Int) = (wrap64 (a0_0 * a0_0)) then ((slices_ContainsFunc_int_int__impl_MatrixValid_1.f k l0_1).bind fun t211 => (some (!t211))) else (some false)))) = some r:=h
 clear h
 by_cases c2 : a0_0 < 1
 ·rw [if_pos c2] at H
  have c2b0 : decide (a0_0 < 1) = true:=decide_eq_true c2
  clear c2
  obtain rfl:=Option.some.inj H
  go_enter Try.func126,Try.ntmps126
  go_wp2_with (first|((with_reducible refine gate_dst (N:=1) rfl ?_);(try (refine gate_guard (by rfl) ?_;dsimp only));refine box_event ?hg (N:=1) ?hd (cs:=#[.int .i64 a0_0,.slice A0_1 l0_1.length c0_1]) (t:=35) ?hr ?_;(case hd => rfl);(case hg => rfl);(case hr => first|(go_simp;done)|(go_simp;rfl));intro gb210 hg w3 hbox hb;have n0_:=Aside0.mk (below_step (be0_ HB.out) hb);have n1_:=Aside0.mk (hbox);have n2_:=Aside0.mk ((by rw [hg];exact (below_size (be0_ HB.out)) : w.heap.size ≤ gb210));have n3_:=Aside0.mk ((by rw [hg];exact (below_size (be0_ HB.out)) : w.heap.size ≤ gb210));clear HB;have HB:=n0_;have BK210:=n1_;have GW210:=n2_;have GE210:=n3_;clear n0_ n1_ n2_ n3_;clear hb hbox hg;have hcz4_0 : w3.cell? ⟨gb210,0,none⟩ = some (.int .i64 a0_0):=(blk_cell BK210.out 0).trans rfl;have hcz4_1 : w3.cell? ⟨gb210,1,none⟩ = some (.slice A0_1 l0_1.length c0_1):=(blk_cell BK210.out 1).trans rfl;have hfz4_0:=blk_frozen BK210.out 0;have hfz4_1:=blk_frozen BK210.out 1))
  go_ret
  exact ⟨by first|rfl|(simp [errW_none,errW_some] <;> rfl)|(simp [*,errW_none,errW_some] <;> rfl),be1_ HB.out GE210.out⟩
 ·rw [if_neg c2] at H
  have c2b0 : decide (a0_0 < 1) = false:=decide_eq_false c2
  clear c2
  by_cases c5 : a0_0 > 4
  ·rw [if_pos c5] at H
   have c5b0 : decide (4 < a0_0) = true:=decide_eq_true c5
   clear c5
   obtain rfl:=Option.some.inj H
   go_enter Try.func126,Try.ntmps126
   go_wp2_with (first|((with_reducible refine gate_dst (N:=1) rfl ?_);(try (refine gate_guard (by rfl) ?_;dsimp only));refine box_event ?hg (N:=1) ?hd (cs:=#[.int .i64 a0_0,.slice A0_1 l0_1.length c0_1]) (t:=35) ?hr ?_;(case hd => rfl);(case hg => rfl);(case hr => first|(go_simp;done)|(go_simp;rfl));intro gb210 hg w6 hbox hb;have n0_:=Aside0.mk (below_step (be0_ HB.out) hb);have n1_:=Aside0.mk (hbox);have n2_:=Aside0.mk ((by rw [hg];exact (below_size (be0_ HB.out)) : w.heap.size ≤ gb210));have n3_:=Aside0.mk ((by rw [hg];exact (below_size (be0_ HB.out)) : w.heap.size ≤ gb210));clear HB;have HB:=n0_;have BK210:=n1_;have GW210:=n2_;have GE210:=n3_;clear n0_ n1_ n2_ n3_;clear hb hbox hg;have hcz7_0 : w6.cell? ⟨gb210,0,none⟩ = some (.int .i64 a0_0):=(blk_cell BK210.out 0).trans rfl;have hcz7_1 : w6.cell? ⟨gb210,1,none⟩ = some (.slice A0_1 l0_1.length c0_1):=(blk_cell BK210.out 1).trans rfl;have hfz7_0:=blk_frozen BK210.out 0;have hfz7_1:=blk_frozen BK210.out 1))
   go_ret
   exact ⟨by first|rfl|(simp [errW_none,errW_some] <;> rfl)|(simp [*,errW_none,errW_some] <;> rfl),be1_ HB.out GE210.out⟩
  ·rw [if_neg c5] at H
   have c5b0 : decide (4 < a0_0) = false:=decide_eq_false c5
   clear c5
   by_cases c8 : (l0_1.length : Int) = (wrap64 (a0_0 * a0_0))
   ·rw [if_pos c8] at H
    have c8b0 : ((l0_1.length : Int) == (wrap64 (a0_0 * a0_0))) = true:=beq_iff_eq.mpr c8
    have c8b1 : ((l0_1.length : Int) != (wrap64 (a0_0 * a0_0))) = false:=bne_eq_false_iff_eq.mpr c8
    clear c8
    replace H:=Option.bind_eq_some_iff.mp H
    obtain ⟨t211,A90,H⟩:=H
    replace H : (some (!t211)) = some r:=H
    have A9:=Aside0.mk A90
    clear A90
    obtain rfl:=Option.some.inj H
    go_enter Try.func126,Try.ntmps126
    go_wp2_with (first|((with_reducible refine gate_dst (N:=1) rfl ?_);(try (refine gate_guard (by rfl) ?_;dsimp only));refine box_event ?hg (N:=1) ?hd (cs:=#[.int .i64 a0_0,.slice A0_1 l0_1.length c0_1]) (t:=35) ?hr ?_;(case hd => rfl);(case hg => rfl);(case hr => first|(go_simp;done)|(go_simp;rfl));intro gb210 hg w10 hbox hb;have n0_:=Aside0.mk (below_step (be0_ HB.out) hb);have n1_:=Aside0.mk (hbox);have n2_:=Aside0.mk ((by rw [hg];exact (below_size (be0_ HB.out)) : w.heap.size ≤ gb210));have n3_:=Aside0.mk ((by rw [hg];exact (below_size (be0_ HB.out)) : w.heap.size ≤ gb210));clear HB;have HB:=n0_;have BK210:=n1_;have GW210:=n2_;have GE210:=n3_;clear n0_ n1_ n2_ n3_;clear hb hbox hg;have hcz11_0 : w10.cell? ⟨gb210,0,none⟩ = some (.int .i64 a0_0):=(blk_cell BK210.out 0).trans rfl;have hcz11_1 : w10.cell? ⟨gb210,1,none⟩ = some (.slice A0_1 l0_1.length c0_1):=(blk_cell BK210.out 1).trans rfl;have hfz11_0:=blk_frozen BK210.out 0;have hfz11_1:=blk_frozen BK210.out 1)|((with_reducible refine gate_callee (f:=127) rfl ?_);refine goesL_ (some 24) rfl rfl Try.func127 (by kernel_rfl) rfl #[.slice A0_1 l0_1.length c0_1,.func (.func 163) #[] #[]] rfl lp_ ?_;(with_reducible refine (slices_ContainsFunc_int_int__impl_MatrixValid_1.calls k _ _ l0_1 t211 _ ?side1 ?side2 A9.out).mono ?_);(case side1 => repeat (first|exact (Kd.C_below HR0_1.out HB.out)|(with_reducible refine Kd.C_alloc ?_ _)|(with_reducible refine Kd.C_drewN ?_ _)|(with_reducible refine Kd.C_drew ?_)));(case side2 => exact HC0_1.out);rintro e w12 ⟨rfl,hb⟩;refine ⟨_,rfl,?_⟩;have n0_:=Aside0.mk (blk_below (g:=gb210) (o:=.cells #[.int .i64 a0_0,.slice A0_1 l0_1.length c0_1] 35 (0,0)) (pe_ BK210.out) hb);have n1_:=Aside0.mk (below_step (be1_ HB.out GE210.out) hb);clear BK210;clear HB;have BK210:=n0_;have HB:=n1_;clear n0_ n1_;(try clear hb);(try clear hb2);(try clear hk);(try clear hi)))
    go_ret
    exact ⟨by first|rfl|(simp [errW_none,errW_some] <;> rfl)|(simp [*,errW_none,errW_some] <;> rfl),be1_ HB.out GE210.out⟩
   ·rw [if_neg c8] at H
    have c8b0 : ((l0_1.length : Int) == (wrap64 (a0_0 * a0_0))) = false:=beq_eq_false_iff_ne.mpr c8
    have c8b1 : ((l0_1.length : Int) != (wrap64 (a0_0 * a0_0))) = true:=bne_iff_ne.mpr c8
    obtain rfl:=Option.some.inj H
    go_enter Try.func126,Try.ntmps126
    go_wp2_with (first|((with_reducible refine gate_dst (N:=1) rfl ?_);(try (refine gate_guard (by rfl) ?_;dsimp only));refine box_event ?hg (N:=1) ?hd (cs:=#[.int .i64 a0_0,.slice A0_1 l0_1.length c0_1]) (t:=35) ?hr ?_;(case hd => rfl);(case hg => rfl);(case hr => first|(go_simp;done)|(go_simp;rfl));intro gb210 hg w13 hbox hb;have n0_:=Aside0.mk (below_step (be0_ HB.out) hb);have n1_:=Aside0.mk (hbox);have n2_:=Aside0.mk ((by rw [hg];exact (below_size (be0_ HB.out)) : w.heap.size ≤ gb210));have n3_:=Aside0.mk ((by rw [hg];exact (below_size (be0_ HB.out)) : w.heap.size ≤ gb210));clear HB;have HB:=n0_;have BK210:=n1_;have GW210:=n2_;have GE210:=n3_;clear n0_ n1_ n2_ n3_;clear hb hbox hg;have hcz14_0 : w13.cell? ⟨gb210,0,none⟩ = some (.int .i64 a0_0):=(blk_cell BK210.out 0).trans rfl;have hcz14_1 : w13.cell? ⟨gb210,1,none⟩ = some (.slice A0_1 l0_1.length c0_1):=(blk_cell BK210.out 1).trans rfl;have hfz14_0:=blk_frozen BK210.out 0;have hfz14_1:=blk_frozen BK210.out 1))
    go_ret
    exact ⟨by first|rfl|(simp [errW_none,errW_some] <;> rfl)|(simp [*,errW_none,errW_some] <;> rfl),be1_ HB.out GE210.out⟩
end Go.Proofs.Ytfmbpoojpnoafaa.X
end
section
namespace Go.Proofs.Ytfmbpoojpnoafaa.X
open Go.RowKit Go.Proofs.YtfmbpoojpnoafaaW.PrintWords Go.Proofs.YtfmbpoojpnoafaaW.PrintLast Go.Proofs.YtfmbpoojpnoafaaW.PrintMore
attribute [local go_sem] max2_int min2_int max_two min_two max_three min_three max_four min_four
set_option linter.unusedVariables false
set_option linter.unusedSimpArgs false
def impl_GradesValid_1.f (a0 : Int) : Option (Bool):=some (decide (a0 > 3))
set_option maxHeartbeats 8000000 in
set_option maxRecDepth 100000 in
theorem impl_GradesValid_1.calls (a0 : Int) (r : Bool) (w : World) (h : impl_GradesValid_1.f a0 = some r) :
  Calls Try.prog 128 #[.int .i64 a0] w fun e w' => e = .returned (.bool r) ∧ Drawn0 w w':=by
 have H : (some (decide (a0 > 3))) = some r:=h
 clear h
 obtain rfl:=Option.some.inj H
 go_enter Try.func128,Try.ntmps128
 go_wp2
 go_ret
 exact ⟨by first|rfl|(simp;done)|(simp [*];done),by repeat (first|exact Drawn0.refl _|apply Drawn0.step)⟩
end Go.Proofs.Ytfmbpoojpnoafaa.X
end
section
namespace Go.Proofs.Ytfmbpoojpnoafaa.X
open Go.RowKit Go.Proofs.YtfmbpoojpnoafaaW.PrintWords Go.Proofs.YtfmbpoojpnoafaaW.PrintLast Go.Proofs.YtfmbpoojpnoafaaW.PrintMore
attribute [local go_sem] max2_int min2_int max_two min_two max_three min_three max_four min_four
set_option linter.unusedVariables false
set_option linter.unusedSimpArgs false
def slices_ContainsFunc_int_int__impl_GradesValid_1.f (k : Nat) (l0 : List Int) : Option (Bool):=slices_ContainsFunc_int_int.f (fun y0 => impl_GradesValid_1.f  y0 ) k l0
theorem slices_ContainsFunc_int_int__impl_GradesValid_1.mono : ∀ b0 k,LeO (slices_ContainsFunc_int_int__impl_GradesValid_1.f k b0) (slices_ContainsFunc_int_int__impl_GradesValid_1.f (k + 1) b0):=by
 intro b0 k
 exact slices_ContainsFunc_int_int.monoP (fun _ => LeO.refl _) _ k
set_option maxHeartbeats 2000000 in
theorem slices_ContainsFunc_int_int__impl_GradesValid_1.calls (k : Nat) (A0 : Option Addr) (c0 : Nat) (l0 : List Int) (r : Bool) (w : World) (hr0 : Kd.C (Kd.int .i64) w A0 l0.length l0) (hc0 : l0.length ≤ c0) (h : slices_ContainsFunc_int_int__impl_GradesValid_1.f k l0 = some r) :
  Calls Try.prog 127 #[.slice A0 l0.length c0,.func (.func 128) #[] #[]] w fun e w' => e = .returned (.bool r) ∧ Below w.heap.size w w':=by
 refine slices_ContainsFunc_int_int.calls k A0 c0 l0 128 #[] #[] (fun y0 => impl_GradesValid_1.f  y0 ) r w hr0 hc0 ⟨_,Try.func128,rfl,rfl⟩ ?_ h
 intro ay0 z0 W_ hB_  h_
 refine calls_of_args (args':=#[.int .i64 ay0]) (by simp) ?_
 refine (impl_GradesValid_1.calls ay0 z0 W_  h_).mono ?_
 rintro e w' ⟨rfl,hd⟩
 exact ⟨rfl,hd.below⟩
end Go.Proofs.Ytfmbpoojpnoafaa.X
end
section
namespace Go.Proofs.Ytfmbpoojpnoafaa.X
open Go.RowKit Go.Proofs.YtfmbpoojpnoafaaW.PrintWords Go.Proofs.YtfmbpoojpnoafaaW.PrintLast Go.Proofs.YtfmbpoojpnoafaaW.PrintMore
attribute [local go_sem] max2_int min2_int max_two min_two max_three min_three max_four min_four
set_option linter.unusedVariables false
set_option linter.unusedSimpArgs false
def impl_GradesValid.f (k : Nat) (a0_0 : Int) (l0_1 : List Int) : Option (Bool):=(impl_MatrixValid.f k a0_0 l0_1).bind fun t213 => (if t213 = true then ((slices_ContainsFunc_int_int__impl_GradesValid_1.f k l0_1).bind fun t214 => (some (!t214))) else (some false))
theorem impl_GradesValid.mono : ∀ a0 a1 k,LeO (impl_GradesValid.f k a0 a1) (impl_GradesValid.f (k + 1) a0 a1):=by
 intro a0 a1 k
 unfold impl_GradesValid.f
 repeat' first
   | (with_reducible exact impl_MatrixValid.mono _ _ _)
   | (with_reducible exact slices_ContainsFunc_int_int__impl_GradesValid_1.mono _ _)
   | (with_reducible exact LeO.refl _)
   | (with_reducible exact LeO.none _)
   | (with_reducible refine LeO.ite ?_ ?_)
   | (with_reducible refine LeO.bind ?_ (fun _ => ?_))
   | exact impl_MatrixValid.mono _ _ _
   | exact slices_ContainsFunc_int_int__impl_GradesValid_1.mono _ _
   | exact LeO.none _
   | refine LeO.ite ?_ ?_
   | refine LeO.bind ?_ (fun _ => ?_)
set_option maxHeartbeats 8000000 in
set_option maxRecDepth 100000 in
theorem impl_GradesValid.calls (k : Nat) (a0_0 : Int) (A0_1 : Option Addr) (c0_1 : Nat) (l0_1 : List Int) (r : Bool) (w : World) (hr0_1 : Kd.C (Kd.int .i64) w A0_1 l0_1.length l0_1) (hc0_1 : l0_1.length ≤ c0_1) (h : impl_GradesValid.f k a0_0 l0_1 = some r) :
  Calls Try.prog 73 #[.agg #[.int .i64 a0_0,.slice A0_1 l0_1.length c0_1]] w fun e w' => e = .returned (.bool r) ∧ Below w.heap.size w w':=by
 have hu35:=Try.underlying35
 have HR0_1:=Aside0.mk hr0_1
 have HC0_1:=Aside0.mk hc0_1
 clear hr0_1 hc0_1
 have HB:=Aside0.mk (Below.refl w.heap.size w)
 have H : ((impl_MatrixValid.f k a0_0 l0_1).bind fun t213 => (if t213 = true then ((slices_ContainsFunc_int_int__impl_GradesValid_1.f k l0_1).bind fun t214 => (some (!t214))) else (some false))) = some r:=h
 clear h
 replace H:=Option.bind_eq_some_iff.mp H
 obtain ⟨t213,A20,H⟩:=H
 replace H : (if t213 = true then ((slices_ContainsFunc_int_int__impl_GradesValid_1.f k l0_1).bind fun t214 => (some (!t214))) else (some false)) = some r:=H
 have A2:=Aside0.mk A20
 clear A20
 by_cases c3 : t213 = true
 ·subst c3
  have H1 : ((slices_ContainsFunc_int_int__impl_GradesValid_1.f k l0_1).bind fun t214 => (some (!t214))) = some r:=by rw [if_pos rfl] at H;exact H
  clear H
  have H:=H1
  clear H1
  replace H:=Option.bind_eq_some_iff.mp H
  obtain ⟨t214,A40,H⟩:=H
  replace H : (some (!t214)) = some r:=H
  have A4:=Aside0.mk A40
  clear A40
  obtain rfl:=Option.some.inj H
  go_enter Try.func73,Try.ntmps73
  go_wp2_with (first|((with_reducible refine gate_dst (N:=1) rfl ?_);refine box_event ?hg (N:=1) ?hd (cs:=#[.int .i64 a0_0,.slice A0_1 l0_1.length c0_1]) (t:=35) ?hr ?_;(case hd => rfl);(case hg => rfl);(case hr => first|(go_simp;done)|(go_simp;rfl));intro gb212 hg w5 hbox hb;have n0_:=Aside0.mk (below_step (be0_ HB.out) hb);have n1_:=Aside0.mk (hbox);have n2_:=Aside0.mk ((by rw [hg];exact (below_size (be0_ HB.out)) : w.heap.size ≤ gb212));have n3_:=Aside0.mk ((by rw [hg];exact (below_size (be0_ HB.out)) : w.heap.size ≤ gb212));clear HB;have HB:=n0_;have BK212:=n1_;have GW212:=n2_;have GE212:=n3_;clear n0_ n1_ n2_ n3_;clear hb hbox hg;have hcz6_0 : w5.cell? ⟨gb212,0,none⟩ = some (.int .i64 a0_0):=(blk_cell BK212.out 0).trans rfl;have hcz6_1 : w5.cell? ⟨gb212,1,none⟩ = some (.slice A0_1 l0_1.length c0_1):=(blk_cell BK212.out 1).trans rfl;have hfz6_0:=blk_frozen BK212.out 0;have hfz6_1:=blk_frozen BK212.out 1)|((with_reducible refine gate_callee (f:=126) rfl ?_);refine goesL_ (some 4) rfl rfl Try.func126 (by kernel_rfl) rfl #[.agg #[.int .i64 a0_0,.slice A0_1 l0_1.length c0_1]] rfl lp_ ?_;(with_reducible refine (impl_MatrixValid.calls k a0_0 _ _ l0_1 true _ ?side1 ?side2 A2.out).mono ?_);(case side1 => repeat (first|exact (Kd.C_below HR0_1.out HB.out)|(with_reducible refine Kd.C_alloc ?_ _)|(with_reducible refine Kd.C_drewN ?_ _)|(with_reducible refine Kd.C_drew ?_)));(case side2 => exact HC0_1.out);rintro e w7 ⟨rfl,hb⟩;refine ⟨_,rfl,?_⟩;have n0_:=Aside0.mk (blk_below (g:=gb212) (o:=.cells #[.int .i64 a0_0,.slice A0_1 l0_1.length c0_1] 35 (0,0)) (pe_ BK212.out) hb);have n1_:=Aside0.mk (below_step (be1_ HB.out GE212.out) hb);clear BK212;clear HB;have BK212:=n0_;have HB:=n1_;clear n0_ n1_;(try clear hb);(try clear hb2);(try clear hk);(try clear hi);have hcz8_0 : w7.cell? ⟨gb212,0,none⟩ = some (.int .i64 a0_0):=(blk_cell BK212.out 0).trans rfl;have hcz8_1 : w7.cell? ⟨gb212,1,none⟩ = some (.slice A0_1 l0_1.length c0_1):=(blk_cell BK212.out 1).trans rfl;have hfz8_0:=blk_frozen BK212.out 0;have hfz8_1:=blk_frozen BK212.out 1)|(go_at_call 127;(with_reducible refine (slices_ContainsFunc_int_int__impl_GradesValid_1.calls k _ _ l0_1 t214 _ ?side1 ?side2 A4.out).mono ?_);(case side1 => repeat (first|exact (Kd.C_below HR0_1.out HB.out)|(with_reducible refine Kd.C_alloc ?_ _)|(with_reducible refine Kd.C_drewN ?_ _)|(with_reducible refine Kd.C_drew ?_)));(case side2 => exact HC0_1.out);rintro e w9 ⟨rfl,hb⟩;have n0_:=Aside0.mk (blk_below (g:=gb212) (o:=.cells #[.int .i64 a0_0,.slice A0_1 l0_1.length c0_1] 35 (0,0)) (pe_ BK212.out) hb);have n1_:=Aside0.mk (below_step (be1_ HB.out GE212.out) hb);clear BK212;clear HB;have BK212:=n0_;have HB:=n1_;clear n0_ n1_;(try clear hb);(try clear hb2);(try clear hk);(try clear hi)))
  go_ret
  exact ⟨by first|rfl|(simp [errW_none,errW_some] <;> rfl)|(simp [*,errW_none,errW_some] <;> rfl),be1_ HB.out GE212.out⟩
 ·replace c3:=Bool.eq_false_iff.mpr c3
  subst c3
  have H1 : (some false) = some r:=by rw [if_neg (show ¬ (false = true) by decide)] at H;exact H
  clear H
  have H:=H1
  clear H1
  obtain rfl:=Option.some.inj H
  go_enter Try.func73,Try.ntmps73
  go_wp2_with (first|((with_reducible refine gate_dst (N:=1) rfl ?_);refine box_event ?hg (N:=1) ?hd (cs:=#[.int .i64 a0_0,.slice A0_1 l0_1.length c0_1]) (t:=35) ?hr ?_;(case hd => rfl);(case hg => rfl);(case hr => first|(go_simp;done)|(go_simp;rfl));intro gb212 hg w10 hbox hb;have n0_:=Aside0.mk (below_step (be0_ HB.out) hb);have n1_:=Aside0.mk (hbox);have n2_:=Aside0.mk ((by rw [hg];exact (below_size (be0_ HB.out)) : w.heap.size ≤ gb212));have n3_:=Aside0.mk ((by rw [hg];exact (below_size (be0_ HB.out)) : w.heap.size ≤ gb212));clear HB;have HB:=n0_;have BK212:=n1_;have GW212:=n2_;have GE212:=n3_;clear n0_ n1_ n2_ n3_;clear hb hbox hg;have hcz11_0 : w10.cell? ⟨gb212,0,none⟩ = some (.int .i64 a0_0):=(blk_cell BK212.out 0).trans rfl;have hcz11_1 : w10.cell? ⟨gb212,1,none⟩ = some (.slice A0_1 l0_1.length c0_1):=(blk_cell BK212.out 1).trans rfl;have hfz11_0:=blk_frozen BK212.out 0;have hfz11_1:=blk_frozen BK212.out 1)|((with_reducible refine gate_callee (f:=126) rfl ?_);refine goesL_ (some 4) rfl rfl Try.func126 (by kernel_rfl) rfl #[.agg #[.int .i64 a0_0,.slice A0_1 l0_1.length c0_1]] rfl lp_ ?_;(with_reducible refine (impl_MatrixValid.calls k a0_0 _ _ l0_1 false _ ?side1 ?side2 A2.out).mono ?_);(case side1 => repeat (first|exact (Kd.C_below HR0_1.out HB.out)|(with_reducible refine Kd.C_alloc ?_ _)|(with_reducible refine Kd.C_drewN ?_ _)|(with_reducible refine Kd.C_drew ?_)));(case side2 => exact HC0_1.out);rintro e w12 ⟨rfl,hb⟩;refine ⟨_,rfl,?_⟩;have n0_:=Aside0.mk (blk_below (g:=gb212) (o:=.cells #[.int .i64 a0_0,.slice A0_1 l0_1.length c0_1] 35 (0,0)) (pe_ BK212.out) hb);have n1_:=Aside0.mk (below_step (be1_ HB.out GE212.out) hb);clear BK212;clear HB;have BK212:=n0_;have HB:=n1_;clear n0_ n1_;(try clear hb);(try clear hb2);(try clear hk);(try clear hi)))
  go_ret
  exact ⟨by first|rfl|(simp [errW_none,errW_some] <;> rfl)|(simp [*,errW_none,errW_some] <;> rfl),be1_ HB.out GE212.out⟩
end Go.Proofs.Ytfmbpoojpnoafaa.X
end
section
namespace Go.Proofs.Ytfmbpoojpnoafaa.X
open Go.RowKit Go.Proofs.YtfmbpoojpnoafaaW.PrintWords Go.Proofs.YtfmbpoojpnoafaaW.PrintLast Go.Proofs.YtfmbpoojpnoafaaW.PrintMore
attribute [local go_sem] max2_int min2_int max_two min_two max_three min_three max_four min_four
set_option linter.unusedVariables false
set_option linter.unusedSimpArgs false
def impl_Matrix_at.f (a0_0 : Int) (l0_1 : List Int) (a1 : Int) (a2 : Int) : Option (Int):=if 0 ≤ (wrap64 ((wrap64 (a1 * a0_0)) + a2)) then (if (wrap64 ((wrap64 (a1 * a0_0)) + a2)) < (l0_1.length : Int) then (some (rd l0_1 (wrap64 ((wrap64 (a1 * a0_0)) + a2)))) else (none)) else (none)
set_option maxHeartbeats 8000000 in
set_option maxRecDepth 100000 in
theorem impl_Matrix_at.calls (a0_0 : Int) (A0_1 : Option Addr) (c0_1 : Nat) (l0_1 : List Int) (a1 : Int) (a2 : Int) (r : Int) (w : World) (hr0_1 : Kd.C (Kd.int .i64) w A0_1 l0_1.length l0_1) (hc0_1 : l0_1.length ≤ c0_1) (h : impl_Matrix_at.f a0_0 l0_1 a1 a2 = some r) :
  Calls Try.prog 74 #[.agg #[.int .i64 a0_0,.slice A0_1 l0_1.length c0_1],.int .i64 a1,.int .i64 a2] w fun e w' => e = .returned (.int .i64 r) ∧ Below w.heap.size w w':=by
 have hu35:=Try.underlying35
 have HR0_1:=Aside0.mk hr0_1
 have HC0_1:=Aside0.mk hc0_1
 clear hr0_1 hc0_1
 have HB:=Aside0.mk (Below.refl w.heap.size w)
 have H : (if 0 ≤ (wrap64 ((wrap64 (a1 * a0_0)) + a2)) then (if (wrap64 ((wrap64 (a1 * a0_0)) + a2)) < (l0_1.length : Int) then (some (rd l0_1 (wrap64 ((wrap64 (a1 * a0_0)) + a2)))) else (none)) else (none)) = some r:=h
 clear h
 obtain ⟨ji4,hji4⟩ : ∃ j_ : Int,(wrap64 ((wrap64 (a1 * a0_0)) + a2)) = j_:=⟨_,rfl⟩
 replace H : (if 0 ≤ (ji4) then (if (ji4) < (l0_1.length : Int) then (some (rd l0_1 (ji4))) else (none)) else (none)) = some r:=by first|(rw [hji4] at H;exact H)|(simp only [hji4] at H ⊢;exact H)
 have hji4w : (IntKind.i64.wrap ((wrap64 (a1 * a0_0)) + a2)) = ji4:=(i64_w _).trans hji4
 by_cases c5 : 0 ≤ (ji4)
 ·rw [if_pos c5] at H
  have c5b0 : decide (0 ≤ (ji4)) = true:=decide_eq_true c5
  clear c5
  by_cases c6 : (ji4) < (l0_1.length : Int)
  ·rw [if_pos c6] at H
   have c6b0 : decide ((ji4) < (l0_1.length : Int)) = true:=decide_eq_true c6
   clear c6
   obtain rfl:=Option.some.inj H
   go_enter Try.func74,Try.ntmps74
   go_wp2_with (first|((with_reducible refine gate_dst (N:=3) rfl ?_);refine box_event ?hg (N:=3) ?hd (cs:=#[.int .i64 a0_0,.slice A0_1 l0_1.length c0_1]) (t:=35) ?hr ?_;(case hd => rfl);(case hg => rfl);(case hr => first|(go_simp;done)|(go_simp;rfl));intro gb215 hg w7 hbox hb;have n0_:=Aside0.mk (below_step (be0_ HB.out) hb);have n1_:=Aside0.mk (hbox);have n2_:=Aside0.mk ((by rw [hg];exact (below_size (be0_ HB.out)) : w.heap.size ≤ gb215));have n3_:=Aside0.mk ((by rw [hg];exact (below_size (be0_ HB.out)) : w.heap.size ≤ gb215));clear HB;have HB:=n0_;have BK215:=n1_;have GW215:=n2_;have GE215:=n3_;clear n0_ n1_ n2_ n3_;clear hb hbox hg;have hcz8_0 : w7.cell? ⟨gb215,0,none⟩ = some (.int .i64 a0_0):=(blk_cell BK215.out 0).trans rfl;have hcz8_1 : w7.cell? ⟨gb215,1,none⟩ = some (.slice A0_1 l0_1.length c0_1):=(blk_cell BK215.out 1).trans rfl;have hfz8_0:=blk_frozen BK215.out 0;have hfz8_1:=blk_frozen BK215.out 1;have p216 : 0 ≤ ((ji4) : Int):=of_decide_eq_true (by first|(with_reducible assumption)|assumption);have q216 : (ji4) < (l0_1.length : Int):=of_decide_eq_true (by first|(with_reducible assumption)|assumption);obtain ⟨ad216,e216,hx216_0⟩:=Kd.at_int HR0_1.out (ji4) p216 q216;cases e216;replace hx216_0:=(HB.out.cell (World.block_lt_of_cell? w _ hx216_0)).trans hx216_0;replace p216:=eq_true p216;replace q216:=eq_true q216))
   go_ret
   exact ⟨by first|rfl|(simp [errW_none,errW_some] <;> rfl)|(simp only [← hji4];first|rfl|(simp [errW_none,errW_some] <;> rfl))|(simp [*,errW_none,errW_some] <;> rfl),be1_ HB.out GE215.out⟩
  ·rw [if_neg c6] at H
   exact absurd H (by simp)
 ·rw [if_neg c5] at H
  exact absurd H (by simp)
end Go.Proofs.Ytfmbpoojpnoafaa.X
end
