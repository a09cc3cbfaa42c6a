import Derived.Test.YtfmbpoojpnoafaaKFnExactWordMatrix1
import Derived.Test.YtfmbpoojpnoafaaKFnExactWordMatrix3
section
namespace Go.Proofs.Ytfmbpoojpnoafaa.X
open Go.RowKit Go.Proofs.YtfmbpoojpnoafaaW.PrintWords Go.Proofs.YtfmbpoojpnoafaaW.PrintLast Go.Proofs.YtfmbpoojpnoafaaW.PrintMore
attribute [local go_sem] max2_int min2_int max_two min_two max_three min_three max_four min_four
set_option linter.unusedVariables false
set_option linter.unusedSimpArgs false
mutual
def spec_AutomatonValid.j0 : Nat → Bool → Int → List Int → List Int → List (S92) → Option (Bool)
 | 0,_,_,_,_,_ => none
 | k + 1,x30,x120000,x120001,x120002,x120003 => if x30 = true then (some false) else (spec_AutomatonValid.l0 k x120003 (x120003.length : Int) 0 x120000 x120001 x120002 x120003)
def spec_AutomatonValid.l0 : Nat → List (S92) → Int → Int → Int → List Int → List Int → List (S92) → Option (Bool)
 | 0,_,_,_,_,_,_,_ => none
 | k + 1,x32,x33,x34,x120000,x120001,x120002,x120003 => if x34 < x33 then (if 0 ≤ x34 then (if x34 < (x32.length : Int) then ((spec_l3Step.f x120000 ((rd_T92 x32 x34).f0) ((rd_T92 x32 x34).f1) ((rd_T92 x32 x34).f2) ((rd_T92 x32 x34).f3)).bind fun t125 => (if t125 = true then (if x34 > 0 then (if 0 ≤ (wrap64 (x34 - 1)) then (if (wrap64 (x34 - 1)) < (x120003.length : Int) then ((spec_l3Before.f ((rd_T92 x120003 (wrap64 (x34 - 1))).f0) ((rd_T92 x120003 (wrap64 (x34 - 1))).f1) ((rd_T92 x120003 (wrap64 (x34 - 1))).f2) ((rd_T92 x120003 (wrap64 (x34 - 1))).f3) ((rd_T92 x32 x34).f0) ((rd_T92 x32 x34).f1) ((rd_T92 x32 x34).f2) ((rd_T92 x32 x34).f3)).bind fun t127 => (if t127 = true then (spec_AutomatonValid.l0 k x32 x33 (wrap64 (x34 + 1)) x120000 x120001 x120002 x120003) else (some false))) else (none)) else (none)) else (spec_AutomatonValid.l0 k x32 x33 (wrap64 (x34 + 1)) x120000 x120001 x120002 x120003)) else (some false))) else (none)) else (none)) else (some true)
end
def spec_AutomatonValid.f (k : Nat) (a0_0 : Int) (l0_1 : List Int) (l0_2 : List Int) (l0_3 : List (S92)) : Option (Bool):=(spec_l1In.f a0_0 1 4).bind fun t120 => (if t120 = true then ((spec_l3Marks.f k a0_0 l0_1).bind fun t121 => (if t121 = true then ((spec_l3Marks.f k a0_0 l0_2).bind fun t122 => (if t122 = true then (spec_AutomatonValid.j0 k (decide ((l0_3.length : Int) > 24)) a0_0 l0_1 l0_2 l0_3) else (spec_AutomatonValid.j0 k true a0_0 l0_1 l0_2 l0_3))) else (spec_AutomatonValid.j0 k true a0_0 l0_1 l0_2 l0_3))) else (spec_AutomatonValid.j0 k true a0_0 l0_1 l0_2 l0_3))
theorem spec_AutomatonValid.mono_l : ∀ k,(∀ y0 y1 y2 y3 y4,LeO (spec_AutomatonValid.j0 k y0 y1 y2 y3 y4) (spec_AutomatonValid.j0 (k + 1) y0 y1 y2 y3 y4)) ∧ (∀ y0 y1 y2 y3 y4 y5 y6,LeO (spec_AutomatonValid.l0 k y0 y1 y2 y3 y4 y5 y6) (spec_AutomatonValid.l0 (k + 1) y0 y1 y2 y3 y4 y5 y6))
 | 0 => ⟨fun _ _ _ _ _ r h => by simp [spec_AutomatonValid.j0] at h,fun _ _ _ _ _ _ _ r h => by simp [spec_AutomatonValid.l0] at h⟩
 | k + 1 => by
  obtain ⟨ih0,ih1⟩:=spec_AutomatonValid.mono_l k
  refine ⟨?_,?_⟩
  ·intro y0 y1 y2 y3 y4
   unfold spec_AutomatonValid.j0
   repeat' first
   | (with_reducible exact ih0 _ _ _ _ _)
   | (with_reducible exact ih1 _ _ _ _ _ _ _)
   | (with_reducible exact spec_l3Marks.mono _ _ _)
   | (with_reducible exact LeO.refl _)
   | (with_reducible exact LeO.none _)
   | (with_reducible refine LeO.ite ?_ ?_)
   | (with_reducible refine LeO.bind ?_ (fun _ => ?_))
   | exact ih0 _ _ _ _ _
   | exact ih1 _ _ _ _ _ _ _
   | exact spec_l3Marks.mono _ _ _
   | exact LeO.none _
   | refine LeO.ite ?_ ?_
   | refine LeO.bind ?_ (fun _ => ?_)
  ·intro y0 y1 y2 y3 y4 y5 y6
   unfold spec_AutomatonValid.l0
   repeat' first
   | (with_reducible exact ih0 _ _ _ _ _)
   | (with_reducible exact ih1 _ _ _ _ _ _ _)
   | (with_reducible exact spec_l3Marks.mono _ _ _)
   | (with_reducible exact LeO.refl _)
   | (with_reducible exact LeO.none _)
   | (with_reducible refine LeO.ite ?_ ?_)
   | (with_reducible refine LeO.bind ?_ (fun _ => ?_))
   | exact ih0 _ _ _ _ _
   | exact ih1 _ _ _ _ _ _ _
   | exact spec_l3Marks.mono _ _ _
   | exact LeO.none _
   | refine LeO.ite ?_ ?_
   | refine LeO.bind ?_ (fun _ => ?_)
theorem spec_AutomatonValid.mono : ∀ a0 a1 a2 a3 k,LeO (spec_AutomatonValid.f k a0 a1 a2 a3) (spec_AutomatonValid.f (k + 1) a0 a1 a2 a3):=by
 intro a0 a1 a2 a3 k
 obtain ⟨ih0,ih1⟩:=spec_AutomatonValid.mono_l k
 unfold spec_AutomatonValid.f
 repeat' first
   | (with_reducible exact ih0 _ _ _ _ _)
   | (with_reducible exact ih1 _ _ _ _ _ _ _)
   | (with_reducible exact spec_l3Marks.mono _ _ _)
   | (with_reducible exact LeO.refl _)
   | (with_reducible exact LeO.none _)
   | (with_reducible refine LeO.ite ?_ ?_)
   | (with_reducible refine LeO.bind ?_ (fun _ => ?_))
   | exact ih0 _ _ _ _ _
   | exact ih1 _ _ _ _ _ _ _
   | exact spec_l3Marks.mono _ _ _
   | exact LeO.none _
   | refine LeO.ite ?_ ?_
   | refine LeO.bind ?_ (fun _ => ?_)
def spec_AutomatonValid.T6 : Bool × List (List Nat × List Nat):=(true,[([],[]),([0],[0]),([],[]),([1,2],[1,2]),([3],[3]),([4,3],[4]),([5],[5]),([6,5],[5,6]),([7,5,5],[5,7]),([8],[8]),([9,8],[8,9]),([8],[8]),([11,8],[8,11]),([10,12,8],[8,10,12]),([13,8],[8,13]),([8],[8]),([14,15,8,8],[8,14,15]),([16,8],[8,16]),([8,17,5],[5,8,17]),([5,18],[5,18])])
def spec_AutomatonValid.B6 : List Nat:=[0,1,0,7,15,31,63,127,255,511,1023,511,2559,8191,16383,511,65535,131071,262143,524287]
theorem spec_AutomatonValid.tab6 : rtab .any (opsOf Try.f67 6) = spec_AutomatonValid.T6:=by kernel_rfl
theorem spec_AutomatonValid.bits6 : waitsOk spec_AutomatonValid.T6.2 spec_AutomatonValid.B6 = true:=by kernel_rfl
set_option maxHeartbeats 8000000 in
set_option maxRecDepth 100000 in
theorem spec_AutomatonValid.calls (k : Nat) (a0_0 : Int) (A0_1 : Option Addr) (c0_1 : Nat) (l0_1 : List Int) (A0_2 : Option Addr) (c0_2 : Nat) (l0_2 : List Int) (A0_3 : Option Addr) (c0_3 : Nat) (l0_3 : List (S92)) (r : Bool) (w : World) (hr0_1 : Kd.C (Kd.int .i64) w A0_1 l0_1.length l0_1) (hc0_1 : l0_1.length ≤ c0_1) (hr0_2 : Kd.C (Kd.int .i64) w A0_2 l0_2.length l0_2) (hc0_2 : l0_2.length ≤ c0_2) (hr0_3 : Kd.C k92 w A0_3 l0_3.length l0_3) (hc0_3 : l0_3.length ≤ c0_3) (h : spec_AutomatonValid.f k a0_0 l0_1 l0_2 l0_3 = some r) :
  Calls Try.prog 67 #[.agg #[.int .i64 a0_0,.slice A0_1 l0_1.length c0_1,.slice A0_2 l0_2.length c0_2,.slice A0_3 l0_3.length c0_3]] w fun e w' => e = .returned (.bool r) ∧ Below w.heap.size w w':=by
 have hu33:=Try.underlying33
 have hu92:=Try.underlying92
 have HR0_1:=Aside0.mk hr0_1
 have HC0_1:=Aside0.mk hc0_1
 clear hr0_1 hc0_1
 have HR0_2:=Aside0.mk hr0_2
 have HC0_2:=Aside0.mk hc0_2
 clear hr0_2 hc0_2
 have HR0_3:=Aside0.mk hr0_3
 have HC0_3:=Aside0.mk hc0_3
 clear hr0_3 hc0_3
 have HB:=Aside0.mk (Below.refl w.heap.size w)
 have H : ((spec_l1In.f a0_0 1 4).bind fun t120 => (if t120 = true then ((spec_l3Marks.f k a0_0 l0_1).bind fun t121 => (if t121 = true then ((spec_l3Marks.f k a0_0 l0_2).bind fun t122 => (if t122 = true then (spec_AutomatonValid.j0 k (decide ((l0_3.length : Int) > 24)) a0_0 l0_1 l0_2 l0_3) else (spec_AutomatonValid.j0 k true a0_0 l0_1 l0_2 l0_3))) else (spec_AutomatonValid.j0 k true a0_0 l0_1 l0_2 l0_3))) else (spec_AutomatonValid.j0 k true a0_0 l0_1 l0_2 l0_3))) = some r:=h
 clear h
 have HC2:=Aside0.mk H
 clear H
 go_enter Try.func67,Try.ntmps67
 go_upto_region 1 with (first|((with_reducible refine gate_dst (N:=1) rfl ?_);(try (refine gate_guard (by rfl) ?_;dsimp only));refine box_event ?hg (N:=1) ?hd (cs:=#[.int .i64 a0_0,.slice A0_1 l0_1.length c0_1,.slice A0_2 l0_2.length c0_2,.slice A0_3 l0_3.length c0_3]) (t:=33) ?hr ?_;(case hd => rfl);(case hg => rfl);(case hr => first|(go_simp;done)|(go_simp;rfl));intro gb119 hg w3 hbox hb;have BK119:=Aside0.mk (hbox);have GW119:=Aside0.mk (szg_ hg (below_size (be0_ HB.out)));have GE119:=Aside0.mk (szg_ hg (below_size (be0_ HB.out)));replace HB:=Aside0.mk (below_step (be0_ HB.out) hb);clear hb hbox hg))
 (try simp only [Act.put,List.setIfInBounds_toArray,List.set_cons_zero,List.set_cons_succ])
 go_cut [30] (fun v30 wc => ∃ (kq : Nat) (x30_1 : Bool),v30 = .bool x30_1 ∧ Aside0 (spec_AutomatonValid.j0 kq x30_1 a0_0 l0_1 l0_2 l0_3 = some r) ∧ Aside0 (kq ≤ k) ∧ Aside0 (wc.heap[gb119]? = some (.cells #[.int .i64 a0_0,(.slice A0_1 l0_1.length c0_1),(.slice A0_2 l0_2.length c0_2),(.slice A0_3 l0_3.length c0_3)] 33 (0,0))) ∧ Aside0 (Below w.heap.size w wc))
 case first =>
  have H:=HC2.out
  clear HC2
  replace H:=Option.bind_eq_some_iff.mp H
  obtain ⟨t120,A40,H⟩:=H
  replace H : (if t120 = true then ((spec_l3Marks.f k a0_0 l0_1).bind fun t121 => (if t121 = true then ((spec_l3Marks.f k a0_0 l0_2).bind fun t122 => (if t122 = true then (spec_AutomatonValid.j0 k (decide ((l0_3.length : Int) > 24)) a0_0 l0_1 l0_2 l0_3) else (spec_AutomatonValid.j0 k true a0_0 l0_1 l0_2 l0_3))) else (spec_AutomatonValid.j0 k true a0_0 l0_1 l0_2 l0_3))) else (spec_AutomatonValid.j0 k true a0_0 l0_1 l0_2 l0_3)) = some r:=H
  have A4:=Aside0.mk A40
  clear A40
  by_cases c5 : t120 = true
  ·subst c5
   have H1 : ((spec_l3Marks.f k a0_0 l0_1).bind fun t121 => (if t121 = true then ((spec_l3Marks.f k a0_0 l0_2).bind fun t122 => (if t122 = true then (spec_AutomatonValid.j0 k (decide ((l0_3.length : Int) > 24)) a0_0 l0_1 l0_2 l0_3) else (spec_AutomatonValid.j0 k true a0_0 l0_1 l0_2 l0_3))) else (spec_AutomatonValid.j0 k true a0_0 l0_1 l0_2 l0_3))) = some r:=by rw [if_pos rfl] at H;exact H
   clear H
   have H:=H1
   clear H1
   replace H:=Option.bind_eq_some_iff.mp H
   obtain ⟨t121,A60,H⟩:=H
   replace H : (if t121 = true then ((spec_l3Marks.f k a0_0 l0_2).bind fun t122 => (if t122 = true then (spec_AutomatonValid.j0 k (decide ((l0_3.length : Int) > 24)) a0_0 l0_1 l0_2 l0_3) else (spec_AutomatonValid.j0 k true a0_0 l0_1 l0_2 l0_3))) else (spec_AutomatonValid.j0 k true a0_0 l0_1 l0_2 l0_3)) = some r:=H
   have A6:=Aside0.mk A60
   clear A60
   by_cases c7 : t121 = true
   ·subst c7
    have H1 : ((spec_l3Marks.f k a0_0 l0_2).bind fun t122 => (if t122 = true then (spec_AutomatonValid.j0 k (decide ((l0_3.length : Int) > 24)) a0_0 l0_1 l0_2 l0_3) else (spec_AutomatonValid.j0 k true a0_0 l0_1 l0_2 l0_3))) = some r:=by rw [if_pos rfl] at H;exact H
    clear H
    have H:=H1
    clear H1
    replace H:=Option.bind_eq_some_iff.mp H
    obtain ⟨t122,A80,H⟩:=H
    replace H : (if t122 = true then (spec_AutomatonValid.j0 k (decide ((l0_3.length : Int) > 24)) a0_0 l0_1 l0_2 l0_3) else (spec_AutomatonValid.j0 k true a0_0 l0_1 l0_2 l0_3)) = some r:=H
    have A8:=Aside0.mk A80
    clear A80
    by_cases c9 : t122 = true
    ·subst c9
     have H1 : (spec_AutomatonValid.j0 k (decide ((l0_3.length : Int) > 24)) a0_0 l0_1 l0_2 l0_3) = some r:=by rw [if_pos rfl] at H;exact H
     clear H
     have H:=H1
     clear H1
     have H':=Aside0.mk H
     clear H
     obtain ⟨hcz10_0,hcz10_1,hcz10_2,hcz10_3,hfz10_0,hfz10_1,hfz10_2,hfz10_3⟩:=cf4_ BK119.out
     go_wp2_with (first|((with_reducible refine gate_callee (f:=90) rfl ?_);refine goesL_ (some 7) rfl rfl Try.func90 (by kernel_rfl) rfl #[.int .i64 a0_0,.int .i64 1,.int .i64 4] rfl lp_ ?_;(with_reducible refine (spec_l1In.calls a0_0 1 4 true _ A4.out).mono ?_);rintro e w' ⟨rfl,⟨nd,rfl⟩⟩;refine ⟨_,rfl,?_⟩)|(go_at_call 119;(with_reducible refine (spec_l3Marks.calls k a0_0 _ _ l0_1 true _ ?side1 ?side2 A6.out).mono ?_);(case side1 => exact cr_ (Kd.C_below HR0_1.out (be1_ HB.out GE119.out)));(case side2 => exact HC0_1.out);rintro e w' ⟨rfl,⟨nd,rfl⟩⟩)|(go_at_call 119;(with_reducible refine (spec_l3Marks.calls k a0_0 _ _ l0_2 true _ ?side1 ?side2 A8.out).mono ?_);(case side1 => exact cr_ (Kd.C_below HR0_2.out (be1_ HB.out GE119.out)));(case side2 => exact HC0_2.out);rintro e w' ⟨rfl,⟨nd,rfl⟩⟩))
     go_meet
     case rel => exact ⟨_,(decide ((l0_3.length : Int) > 24)),rs_,H',⟨by first|omega|exact Nat.le_refl _⟩,⟨pe_ BK119.out⟩,⟨be1_ HB.out GE119.out⟩⟩
    ·replace c9:=Bool.eq_false_iff.mpr c9
     subst c9
     have H1 : (spec_AutomatonValid.j0 k true a0_0 l0_1 l0_2 l0_3) = some r:=by rw [if_neg (show ¬ (false = true) by decide)] at H;exact H
     clear H
     have H:=H1
     clear H1
     have H':=Aside0.mk H
     clear H
     obtain ⟨hcz11_0,hcz11_1,hcz11_2,hcz11_3,hfz11_0,hfz11_1,hfz11_2,hfz11_3⟩:=cf4_ BK119.out
     go_wp2_with (first|((with_reducible refine gate_callee (f:=90) rfl ?_);refine goesL_ (some 7) rfl rfl Try.func90 (by kernel_rfl) rfl #[.int .i64 a0_0,.int .i64 1,.int .i64 4] rfl lp_ ?_;(with_reducible refine (spec_l1In.calls a0_0 1 4 true _ A4.out).mono ?_);rintro e w' ⟨rfl,⟨nd,rfl⟩⟩;refine ⟨_,rfl,?_⟩)|(go_at_call 119;(with_reducible refine (spec_l3Marks.calls k a0_0 _ _ l0_1 true _ ?side1 ?side2 A6.out).mono ?_);(case side1 => exact cr_ (Kd.C_below HR0_1.out (be1_ HB.out GE119.out)));(case side2 => exact HC0_1.out);rintro e w' ⟨rfl,⟨nd,rfl⟩⟩)|(go_at_call 119;(with_reducible refine (spec_l3Marks.calls k a0_0 _ _ l0_2 false _ ?side1 ?side2 A8.out).mono ?_);(case side1 => exact cr_ (Kd.C_below HR0_2.out (be1_ HB.out GE119.out)));(case side2 => exact HC0_2.out);rintro e w' ⟨rfl,⟨nd,rfl⟩⟩))
     go_meet
     case rel => exact ⟨_,(true),rs_,H',⟨by first|omega|exact Nat.le_refl _⟩,⟨pe_ BK119.out⟩,⟨be1_ HB.out GE119.out⟩⟩
   ·replace c7:=Bool.eq_false_iff.mpr c7
    subst c7
    have H1 : (spec_AutomatonValid.j0 k true a0_0 l0_1 l0_2 l0_3) = some r:=by rw [if_neg (show ¬ (false = true) by decide)] at H;exact H
    clear H
    have H:=H1
    clear H1
    have H':=Aside0.mk H
    clear H
    obtain ⟨hcz12_0,hcz12_1,hcz12_2,hcz12_3,hfz12_0,hfz12_1,hfz12_2,hfz12_3⟩:=cf4_ BK119.out
    go_wp2_with (first|((with_reducible refine gate_callee (f:=90) rfl ?_);refine goesL_ (some 7) rfl rfl Try.func90 (by kernel_rfl) rfl #[.int .i64 a0_0,.int .i64 1,.int .i64 4] rfl lp_ ?_;(with_reducible refine (spec_l1In.calls a0_0 1 4 true _ A4.out).mono ?_);rintro e w' ⟨rfl,⟨nd,rfl⟩⟩;refine ⟨_,rfl,?_⟩)|(go_at_call 119;(with_reducible refine (spec_l3Marks.calls k a0_0 _ _ l0_1 false _ ?side1 ?side2 A6.out).mono ?_);(case side1 => exact cr_ (Kd.C_below HR0_1.out (be1_ HB.out GE119.out)));(case side2 => exact HC0_1.out);rintro e w' ⟨rfl,⟨nd,rfl⟩⟩))
    go_meet
    case rel => exact ⟨_,(true),rs_,H',⟨by first|omega|exact Nat.le_refl _⟩,⟨pe_ BK119.out⟩,⟨be1_ HB.out GE119.out⟩⟩
  ·replace c5:=Bool.eq_false_iff.mpr c5
   subst c5
   have H1 : (spec_AutomatonValid.j0 k true a0_0 l0_1 l0_2 l0_3) = some r:=by rw [if_neg (show ¬ (false = true) by decide)] at H;exact H
   clear H
   have H:=H1
   clear H1
   have H':=Aside0.mk H
   clear H
   obtain ⟨hcz13_0,hcz13_1,hcz13_2,hcz13_3,hfz13_0,hfz13_1,hfz13_2,hfz13_3⟩:=cf4_ BK119.out
   go_wp2_with (first|((with_reducible refine gate_callee (f:=90) rfl ?_);refine goesL_ (some 7) rfl rfl Try.func90 (by kernel_rfl) rfl #[.int .i64 a0_0,.int .i64 1,.int .i64 4] rfl lp_ ?_;(with_reducible refine (spec_l1In.calls a0_0 1 4 false _ A4.out).mono ?_);rintro e w' ⟨rfl,⟨nd,rfl⟩⟩;refine ⟨_,rfl,?_⟩))
   go_meet
   case rel => exact ⟨_,(true),rs_,H',⟨by first|omega|exact Nat.le_refl _⟩,⟨pe_ BK119.out⟩,⟨be1_ HB.out GE119.out⟩⟩
 case rest =>
  clear HC2
  try clear p2
  try clear c5
  try clear c6
  try clear c7
  try clear c9
  try clear hcz10_0
  try clear hcz10_1
  try clear hcz10_2
  try clear hcz10_3
  try clear hcz11_0
  try clear hcz11_1
  try clear hcz11_2
  try clear hcz11_3
  try clear hcz12_0
  try clear hcz12_1
  try clear hcz12_2
  try clear hcz12_3
  try clear hcz13_0
  try clear hcz13_1
  try clear hcz13_2
  try clear hcz13_3
  try clear hfz10_0
  try clear hfz10_1
  try clear hfz10_2
  try clear hfz10_3
  try clear hfz11_0
  try clear hfz11_1
  try clear hfz11_2
  try clear hfz11_3
  try clear hfz12_0
  try clear hfz12_1
  try clear hfz12_2
  try clear hfz12_3
  try clear hfz13_0
  try clear hfz13_1
  try clear hfz13_2
  try clear hfz13_3
  obtain ⟨kq,x30_1,rfl,HA,HJ1,BK119,HB⟩:=hcut
  cases kq with
  | zero => exact absurd HA.out (by simp [spec_AutomatonValid.j0])
  | succ kj1 =>
   have H:=HA.out
   clear HA
   simp only [spec_AutomatonValid.j0] at H
   by_cases c14 : x30_1 = true
   ·subst c14
    have H1 : (some false) = some r:=by rw [if_pos rfl] at H;exact H
    clear H
    have H:=H1
    clear H1
    obtain rfl:=Option.some.inj H
    go_wp2
    go_ret
    exact ⟨er_,be1_ HB.out GE119.out⟩
   ·replace c14:=Bool.eq_false_iff.mpr c14
    subst c14
    have H1 : (spec_AutomatonValid.l0 kj1 l0_3 (l0_3.length : Int) 0 a0_0 l0_1 l0_2 l0_3) = some r:=by rw [if_neg (show ¬ (false = true) by decide)] at H;exact H
    clear H
    have H:=H1
    clear H1
    have H':=Aside0.mk H
    clear H
    obtain ⟨hcz15_0,hcz15_1,hcz15_2,hcz15_3,hfz15_0,hfz15_1,hfz15_2,hfz15_3⟩:=cf4_ BK119.out
    go_wp2
    go_loopg [34] kj1 (fun kq v34 w' => ∃ (x34_2 : Int),v34 = .int .i64 x34_2 ∧ Aside0 (spec_AutomatonValid.l0 kq l0_3 (l0_3.length : Int) x34_2 a0_0 l0_1 l0_2 l0_3 = some r) ∧ Aside0 (kq ≤ kj1) ∧ Aside0 (w'.heap[gb119]? = some (.cells #[.int .i64 a0_0,(.slice A0_1 l0_1.length c0_1),(.slice A0_2 l0_2.length c0_2),(.slice A0_3 l0_3.length c0_3)] 33 (0,0))) ∧ Aside0 (Below w.heap.size w w'))
    case atStart => exact ⟨(0),rs_,H',⟨Nat.le_refl _⟩,⟨pe_ BK119.out⟩,⟨be1_ HB.out GE119.out⟩⟩
    case round =>
     clear H'
     try clear c1
     try clear p2
     try clear c5
     try clear c6
     try clear c7
     try clear c9
     try clear c14
     try clear hcz10_0
     try clear hcz10_1
     try clear hcz10_2
     try clear hcz10_3
     try clear hcz11_0
     try clear hcz11_1
     try clear hcz11_2
     try clear hcz11_3
     try clear hcz12_0
     try clear hcz12_1
     try clear hcz12_2
     try clear hcz12_3
     try clear hcz13_0
     try clear hcz13_1
     try clear hcz13_2
     try clear hcz13_3
     try clear hcz15_0
     try clear hcz15_1
     try clear hcz15_2
     try clear hcz15_3
     try clear hfz10_0
     try clear hfz10_1
     try clear hfz10_2
     try clear hfz10_3
     try clear hfz11_0
     try clear hfz11_1
     try clear hfz11_2
     try clear hfz11_3
     try clear hfz12_0
     try clear hfz12_1
     try clear hfz12_2
     try clear hfz12_3
     try clear hfz13_0
     try clear hfz13_1
     try clear hfz13_2
     try clear hfz13_3
     try clear hfz15_0
     try clear hfz15_1
     try clear hfz15_2
     try clear hfz15_3
     try clear p2
     obtain ⟨x34_2,rfl,HA,HK2,BK119,HB⟩:=hrel
     cases gk with
     | zero => exact absurd HA.out (by simp [spec_AutomatonValid.l0])
     | succ k2 =>
      have H:=HA.out
      clear HA
      simp only [spec_AutomatonValid.l0] at H
      by_cases c16 : x34_2 < (l0_3.length : Int)
      ·rw [if_pos c16] at H
       have c16b0 : decide (x34_2 < (l0_3.length : Int)) = true:=decide_eq_true c16
       clear c16
       by_cases c17 : 0 ≤ x34_2
       ·rw [if_pos c17] at H
        have c17b0 : decide (0 ≤ x34_2) = true:=decide_eq_true c17
        clear c17
        by_cases c18 : x34_2 < (l0_3.length : Int)
        ·rw [if_pos c18] at H
         have c18b0 : decide (x34_2 < (l0_3.length : Int)) = true:=decide_eq_true c18
         clear c18
         replace H:=Option.bind_eq_some_iff.mp H
         obtain ⟨t125,A190,H⟩:=H
         replace H : (if t125 = true then (if x34_2 > 0 then (if 0 ≤ (wrap64 (x34_2 - 1)) then (if (wrap64 (x34_2 - 1)) < (l0_3.length : Int) then ((spec_l3Before.f ((rd_T92 l0_3 (wrap64 (x34_2 - 1))).f0) ((rd_T92 l0_3 (wrap64 (x34_2 - 1))).f1) ((rd_T92 l0_3 (wrap64 (x34_2 - 1))).f2) ((rd_T92 l0_3 (wrap64 (x34_2 - 1))).f3) ((rd_T92 l0_3 x34_2).f0) ((rd_T92 l0_3 x34_2).f1) ((rd_T92 l0_3 x34_2).f2) ((rd_T92 l0_3 x34_2).f3)).bind fun t127 => (if t127 = true then (spec_AutomatonValid.l0 k2 l0_3 (l0_3.length : Int) (wrap64 (x34_2 + 1)) a0_0 l0_1 l0_2 l0_3) else (some false))) else (none)) else (none)) else (spec_AutomatonValid.l0 k2 l0_3 (l0_3.length : Int) (wrap64 (x34_2 + 1)) a0_0 l0_1 l0_2 l0_3)) else (some false)) = some r:=H
         have A19:=Aside0.mk A190
         clear A190
         by_cases c20 : t125 = true
         ·subst c20
          have H1 : (if x34_2 > 0 then (if 0 ≤ (wrap64 (x34_2 - 1)) then (if (wrap64 (x34_2 - 1)) < (l0_3.length : Int) then ((spec_l3Before.f ((rd_T92 l0_3 (wrap64 (x34_2 - 1))).f0) ((rd_T92 l0_3 (wrap64 (x34_2 - 1))).f1) ((rd_T92 l0_3 (wrap64 (x34_2 - 1))).f2) ((rd_T92 l0_3 (wrap64 (x34_2 - 1))).f3) ((rd_T92 l0_3 x34_2).f0) ((rd_T92 l0_3 x34_2).f1) ((rd_T92 l0_3 x34_2).f2) ((rd_T92 l0_3 x34_2).f3)).bind fun t127 => (if t127 = true then (spec_AutomatonValid.l0 k2 l0_3 (l0_3.length : Int) (wrap64 (x34_2 + 1)) a0_0 l0_1 l0_2 l0_3) else (some false))) else (none)) else (none)) else (spec_AutomatonValid.l0 k2 l0_3 (l0_3.length : Int) (wrap64 (x34_2 + 1)) a0_0 l0_1 l0_2 l0_3)) = some r:=by rw [if_pos rfl] at H;exact H
          clear H
          have H:=H1
          clear H1
          by_cases c21 : x34_2 > 0
          ·rw [if_pos c21] at H
           have c21b0 : decide (0 < x34_2) = true:=decide_eq_true c21
           clear c21
           obtain ⟨ji22,hji22⟩ : ∃ j_ : Int,(wrap64 (x34_2 - 1)) = j_:=⟨_,rfl⟩
           replace H : (if 0 ≤ (ji22) then (if (ji22) < (l0_3.length : Int) then ((spec_l3Before.f ((rd_T92 l0_3 (ji22)).f0) ((rd_T92 l0_3 (ji22)).f1) ((rd_T92 l0_3 (ji22)).f2) ((rd_T92 l0_3 (ji22)).f3) ((rd_T92 l0_3 x34_2).f0) ((rd_T92 l0_3 x34_2).f1) ((rd_T92 l0_3 x34_2).f2) ((rd_T92 l0_3 x34_2).f3)).bind fun t127 => (if t127 = true then (spec_AutomatonValid.l0 k2 l0_3 (l0_3.length : Int) (wrap64 (x34_2 + 1)) a0_0 l0_1 l0_2 l0_3) else (some false))) else (none)) else (none)) = some r:=by first|(rw [hji22] at H;exact H)|(simp only [hji22] at H ⊢;exact H)
           (try rw [hji22] at A19)
           have hji22w : (IntKind.i64.wrap (x34_2 - 1)) = ji22:=(i64_w _).trans hji22
           by_cases c23 : 0 ≤ (ji22)
           ·rw [if_pos c23] at H
            have c23b0 : decide (0 ≤ (ji22)) = true:=decide_eq_true c23
            clear c23
            by_cases c24 : (ji22) < (l0_3.length : Int)
            ·rw [if_pos c24] at H
             have c24b0 : decide ((ji22) < (l0_3.length : Int)) = true:=decide_eq_true c24
             clear c24
             replace H:=Option.bind_eq_some_iff.mp H
             obtain ⟨t127,A250,H⟩:=H
             replace H : (if t127 = true then (spec_AutomatonValid.l0 k2 l0_3 (l0_3.length : Int) (wrap64 (x34_2 + 1)) a0_0 l0_1 l0_2 l0_3) else (some false)) = some r:=H
             have A25:=Aside0.mk A250
             clear A250
             by_cases c26 : t127 = true
             ·subst c26
              have H1 : (spec_AutomatonValid.l0 k2 l0_3 (l0_3.length : Int) (wrap64 (x34_2 + 1)) a0_0 l0_1 l0_2 l0_3) = some r:=by rw [if_pos rfl] at H;exact H
              clear H
              have H:=H1
              clear H1
              have H':=Aside0.mk H
              clear H
              have p123 : 0 ≤ (x34_2 : Int):=of_decide_eq_true (by first|(with_reducible assumption)|assumption)
              have q123 : x34_2 < (l0_3.length : Int):=of_decide_eq_true (by first|(with_reducible assumption)|assumption)
              obtain ⟨ad123,e123,hx123_0,hx123_1,hx123_2,hx123_3⟩:=at_T92 HR0_3.out x34_2 p123 q123
              cases e123
              replace hx123_0:=hbc_ HB.out hx123_0
              replace hx123_1:=hbc_ HB.out hx123_1
              replace hx123_2:=hbc_ HB.out hx123_2
              replace hx123_3:=hbc_ HB.out hx123_3
              replace p123:=eq_true p123
              replace q123:=eq_true q123
              try go_wp2_with (first|((with_reducible refine gate_dst (N:=4) rfl ?_);(try (refine gate_guard (by rfl) ?_;dsimp only));refine box_event ?hg (N:=4) ?hd (cs:=#[.int .i64 0,.string (⟨#[]⟩ : ByteArray),.int .i64 0,.int .i64 0]) (t:=92) ?hr ?_;(case hd => rfl);(case hg => rfl);(case hr => first|(go_simp;done)|(go_simp;rfl));intro gb124 hg w27 hbox hb;have BK124:=Aside0.mk (hbox);have GW124:=Aside0.mk (szg_ hg (below_size (be1_ HB.out GE119.out)));have GE124:=Aside0.mk (szg_ hg (below_size (be1_ HB.out GE119.out)));replace HB:=Aside0.mk (below_step (be1_ HB.out GE119.out) hb);have NB119_124:=Aside0.mk (nl_ hg BK119.out);have NB124_119:=Aside0.mk (ng_ hg BK119.out);replace BK119:=Aside0.mk (kb_ BK119.out hb);clear hb hbox hg;have hnb28:=NB124_119.out;have hnc28:=NB119_124.out;obtain ⟨hcz29_0,hcz29_1,hcz29_2,hcz29_3,hfz29_0,hfz29_1,hfz29_2,hfz29_3⟩:=cf4_ BK124.out))
              have n0_ : Aside0 (((((w27.setCell ⟨gb124,0,none⟩ (.int .i64 ((rd_T92 l0_3 x34_2).f0))).setCell ⟨gb124,1,none⟩ (.string ((rd_T92 l0_3 x34_2).f1))).setCell ⟨gb124,2,none⟩ (.int .i64 ((rd_T92 l0_3 x34_2).f2))).setCell ⟨gb124,3,none⟩ (.int .i64 ((rd_T92 l0_3 x34_2).f3))).heap[gb119]? = some (.cells #[.int .i64 a0_0,.slice A0_1 l0_1.length c0_1,.slice A0_2 l0_2.length c0_2,.slice (some ad123) l0_3.length c0_3] 33 (0,0))):=⟨by refine pe_ ?_;refine blk_far ?_ NB119_124.out _;refine pe_ ?_;refine blk_far ?_ NB119_124.out _;refine pe_ ?_;refine blk_far ?_ NB119_124.out _;refine pe_ ?_;refine blk_far ?_ NB119_124.out _;refine pe_ ?_;exact BK119.out⟩
              have n1_ : Aside0 (((((w27.setCell ⟨gb124,0,none⟩ (.int .i64 ((rd_T92 l0_3 x34_2).f0))).setCell ⟨gb124,1,none⟩ (.string ((rd_T92 l0_3 x34_2).f1))).setCell ⟨gb124,2,none⟩ (.int .i64 ((rd_T92 l0_3 x34_2).f2))).setCell ⟨gb124,3,none⟩ (.int .i64 ((rd_T92 l0_3 x34_2).f3))).heap[gb124]? = some (.cells #[.int .i64 ((rd_T92 l0_3 x34_2).f0),.string ((rd_T92 l0_3 x34_2).f1),.int .i64 ((rd_T92 l0_3 x34_2).f2),.int .i64 ((rd_T92 l0_3 x34_2).f3)] 92 (0,0))):=⟨by refine pe_ ?_;refine blk_put (cs:=#[.int .i64 ((rd_T92 l0_3 x34_2).f0),.string ((rd_T92 l0_3 x34_2).f1),.int .i64 ((rd_T92 l0_3 x34_2).f2),.int .i64 0]) ?_ 3 _ rfl;refine pe_ ?_;refine blk_put (cs:=#[.int .i64 ((rd_T92 l0_3 x34_2).f0),.string ((rd_T92 l0_3 x34_2).f1),.int .i64 0,.int .i64 0]) ?_ 2 _ rfl;refine pe_ ?_;refine blk_put (cs:=#[.int .i64 ((rd_T92 l0_3 x34_2).f0),.string (⟨#[]⟩ : ByteArray),.int .i64 0,.int .i64 0]) ?_ 1 _ rfl;refine pe_ ?_;refine blk_put (cs:=#[.int .i64 0,.string (⟨#[]⟩ : ByteArray),.int .i64 0,.int .i64 0]) ?_ 0 _ rfl;refine pe_ ?_;exact BK124.out⟩
              have n2_ : Aside0 (Below w.heap.size w ((((w27.setCell ⟨gb124,0,none⟩ (.int .i64 ((rd_T92 l0_3 x34_2).f0))).setCell ⟨gb124,1,none⟩ (.string ((rd_T92 l0_3 x34_2).f1))).setCell ⟨gb124,2,none⟩ (.int .i64 ((rd_T92 l0_3 x34_2).f2))).setCell ⟨gb124,3,none⟩ (.int .i64 ((rd_T92 l0_3 x34_2).f3)))):=⟨be2_ HB.out GE119.out GE124.out⟩
              (try clear BK119)
              (try clear BK124)
              (try clear HB)
              generalize ((((w27.setCell ⟨gb124,0,none⟩ (.int .i64 ((rd_T92 l0_3 x34_2).f0))).setCell ⟨gb124,1,none⟩ (.string ((rd_T92 l0_3 x34_2).f1))).setCell ⟨gb124,2,none⟩ (.int .i64 ((rd_T92 l0_3 x34_2).f2))).setCell ⟨gb124,3,none⟩ (.int .i64 ((rd_T92 l0_3 x34_2).f3))) = w30 at n0_ n1_ n2_ ⊢
              have BK119:=n0_
              have BK124:=n1_
              have HB:=n2_
              clear n0_ n1_ n2_
              replace BK119:=Aside0.mk (blk_drew BK119.out)
              replace BK124:=Aside0.mk (blk_drew BK124.out)
              replace HB:=Aside0.mk (below_drew1 HB.out)
              have p126 : 0 ≤ ((ji22) : Int):=of_decide_eq_true (by first|(with_reducible assumption)|assumption)
              have q126 : (ji22) < (l0_3.length : Int):=of_decide_eq_true (by first|(with_reducible assumption)|assumption)
              obtain ⟨ad126,e126,hx126_0,hx126_1,hx126_2,hx126_3⟩:=at_T92 HR0_3.out (ji22) p126 q126
              have hw126_3:=hx126_3
              have hw126_2:=hx126_2
              have hw126_1:=hx126_1
              have hw126_0:=hx126_0
              obtain rfl : ad123 = ad126:=(by injection e126)
              replace hx126_0:=hbc_ HB.out hx126_0
              replace hx126_1:=hbc_ HB.out hx126_1
              replace hx126_2:=hbc_ HB.out hx126_2
              replace hx126_3:=hbc_ HB.out hx126_3
              replace p126:=eq_true p126
              replace q126:=eq_true q126
              refine start_ (n:=20) (S:=fun w' => w'.cell? ⟨gb119,0,none⟩ = some (.int .i64 a0_0) ∧ w'.cell? ⟨gb119,1,none⟩ = some (.slice A0_1 l0_1.length c0_1) ∧ w'.cell? ⟨gb119,2,none⟩ = some (.slice A0_2 l0_2.length c0_2) ∧ w'.cell? ⟨gb119,3,none⟩ = some (.slice (some ad123) l0_3.length c0_3) ∧ w'.cell? ⟨gb124,0,none⟩ = some (.int .i64 ((rd_T92 l0_3 x34_2).f0)) ∧ w'.cell? ⟨gb124,1,none⟩ = some (.string ((rd_T92 l0_3 x34_2).f1)) ∧ w'.cell? ⟨gb124,2,none⟩ = some (.int .i64 ((rd_T92 l0_3 x34_2).f2)) ∧ w'.cell? ⟨gb124,3,none⟩ = some (.int .i64 ((rd_T92 l0_3 x34_2).f3)) ∧ w'.cell? (ad123.add (((ji22)).toNat * 4)) = some (.int .i64 ((rd_T92 l0_3 (ji22)).f0)) ∧ w'.cell? ⟨(ad123.add (((ji22)).toNat * 4)).block,(ad123.add (((ji22)).toNat * 4)).off + 1,none⟩ = some (.string ((rd_T92 l0_3 (ji22)).f1)) ∧ w'.cell? ⟨(ad123.add (((ji22)).toNat * 4)).block,(ad123.add (((ji22)).toNat * 4)).off + 2,none⟩ = some (.int .i64 ((rd_T92 l0_3 (ji22)).f2)) ∧ w'.cell? ⟨(ad123.add (((ji22)).toNat * 4)).block,(ad123.add (((ji22)).toNat * 4)).off + 3,none⟩ = some (.int .i64 ((rd_T92 l0_3 (ji22)).f3))) (ds:=[]) #[false,false,false,false,false,false,false,false,false,false,false,false,false,false,false,false,false,false,false,false] (by kernel_rfl) rfl rfl ⟨(blk_cell BK119.out 0).trans rfl,(blk_cell BK119.out 1).trans rfl,(blk_cell BK119.out 2).trans rfl,(blk_cell BK119.out 3).trans rfl,(blk_cell BK124.out 0).trans rfl,(blk_cell BK124.out 1).trans rfl,(blk_cell BK124.out 2).trans rfl,(blk_cell BK124.out 3).trans rfl,((HB.out.cell (World.block_lt_of_cell? w _ hw126_0)).trans hw126_0),((HB.out.cell (World.block_lt_of_cell? w _ hw126_1)).trans hw126_1),((HB.out.cell (World.block_lt_of_cell? w _ hw126_2)).trans hw126_2),((HB.out.cell (World.block_lt_of_cell? w _ hw126_3)).trans hw126_3)⟩ (fun hHeld => ?_);refine with_tabW spec_AutomatonValid.tab6 spec_AutomatonValid.bits6 (fun HT_ HW_ => ?_)
              generalize w30.drew = w31 at BK119 BK124 HB hx126_0 hx126_1 hx126_2 hx126_3 hHeld ⊢
              refine stW_ [.p 0 39,.t 1 40,.t 2 41] 3 7 20 HT_.out HW_.out hHeld (a':=?_) ?_ rfl (by kernel_rfl) (fun _ _ _ _ h => h) ?_
              rotate_left
              ·repeat (first|exact Steps.nil|(refine Steps.p (oi:=?_) (v:=?_) (a1:=?_) ?_ ?_ ?_ ?_ ?_;rotate_left 2;rfl;rfl;(refine Or.inl ⟨by rfl,?_⟩;intro w';go_simp;with_reducible rfl);rotate_left;(simp only [Act.put,List.setIfInBounds_toArray,List.set_cons_zero,List.set_cons_succ,i64_w,i32_w];rfl))|(refine Steps.t (oi:=?_) (v:=?_) (a1:=?_) ?_ ?_ ?_ ?_ ?_;rotate_left 2;rfl;rfl;(refine Or.inl ⟨by rfl,?_⟩;rintro w' ⟨s0,s1,s2,s3,s4,s5,s6,s7,s8,s9,s10,s11⟩;go_simp;with_reducible rfl);rotate_left;(simp only [Act.put,List.setIfInBounds_toArray,List.set_cons_zero,List.set_cons_succ,i64_w,i32_w];rfl)))
              refine one_ (i:=3) (N:=some 42) #[true,true,true,true,false,false,false,false,false,false,false,false,false,false,false,false,false,false,false,false] rfl rfl (one_of HT_.out (by kernel_rfl)) (by decide) (fun K hK => ?_)
              refine goes_ Try.func120 (by kernel_rfl) rfl #[.int .i64 a0_0,.agg #[.int .i64 ((rd_T92 l0_3 x34_2).f0),.string ((rd_T92 l0_3 x34_2).f1),.int .i64 ((rd_T92 l0_3 x34_2).f2),.int .i64 ((rd_T92 l0_3 x34_2).f3)]] (by rfl) rfl rfl lp_ ?_
              with_reducible refine (spec_l3Step.calls a0_0 ((rd_T92 l0_3 x34_2).f0) ((rd_T92 l0_3 x34_2).f1) ((rd_T92 l0_3 x34_2).f2) ((rd_T92 l0_3 x34_2).f3) true _ A19.out).mono ?_
              rintro e w32 ⟨rfl,hb⟩
              refine ⟨_,rfl,?_⟩
              replace BK119:=Aside0.mk (kb_ BK119.out hb)
              replace BK124:=Aside0.mk (kb_ BK124.out hb)
              replace HB:=Aside0.mk (below_step (be2_ HB.out GE119.out GE124.out) hb)
              (try clear hb)
              (try clear hb2)
              (try clear hk)
              (try clear hi)
              refine hK.out _ _ ⟨(blk_cell BK119.out 0).trans rfl,(blk_cell BK119.out 1).trans rfl,(blk_cell BK119.out 2).trans rfl,(blk_cell BK119.out 3).trans rfl,(blk_cell BK124.out 0).trans rfl,(blk_cell BK124.out 1).trans rfl,(blk_cell BK124.out 2).trans rfl,(blk_cell BK124.out 3).trans rfl,((HB.out.cell (World.block_lt_of_cell? w _ hw126_0)).trans hw126_0),((HB.out.cell (World.block_lt_of_cell? w _ hw126_1)).trans hw126_1),((HB.out.cell (World.block_lt_of_cell? w _ hw126_2)).trans hw126_2),((HB.out.cell (World.block_lt_of_cell? w _ hw126_3)).trans hw126_3)⟩ (fun hHeld => ?_)
              clear hK K
              refine norm_ (a':=?_) ?_ ?_
              rotate_left
              ·show Act.put _ (some 42) _ = _
               simp only [Act.put,List.setIfInBounds_toArray,List.set_cons_zero,List.set_cons_succ,i64_w,i32_w]
               rfl
              refine stW_ [.p 4 43,.p 5 44,.p 6 45,.p 7 46,.p 8 47,.p 9 48,.p 11 50,.p 12 51,.t 10 49,.p 13 52,.t 14 53,.t 15 54] 12 65535 20 HT_.out HW_.out hHeld (a':=?_) ?_ rfl (by kernel_rfl) (fun _ _ _ _ h => h) ?_
              rotate_left
              ·repeat (first|exact Steps.nil|(refine Steps.p (oi:=?_) (v:=?_) (a1:=?_) ?_ ?_ ?_ ?_ ?_;rotate_left 2;rfl;rfl;(refine Or.inl ⟨by rfl,?_⟩;intro w';go_simp;with_reducible rfl);rotate_left;(simp only [Act.put,List.setIfInBounds_toArray,List.set_cons_zero,List.set_cons_succ,i64_w,i32_w];rfl))|(refine Steps.t (oi:=?_) (v:=?_) (a1:=?_) ?_ ?_ ?_ ?_ ?_;rotate_left 2;rfl;rfl;(refine Or.inl ⟨by rfl,?_⟩;rintro w' ⟨s0,s1,s2,s3,s4,s5,s6,s7,s8,s9,s10,s11⟩;go_simp;with_reducible rfl);rotate_left;(simp only [Act.put,List.setIfInBounds_toArray,List.set_cons_zero,List.set_cons_succ,i64_w,i32_w];rfl)))
              refine one_ (i:=16) (N:=some 55) #[true,true,true,true,true,true,true,true,true,true,true,true,true,true,true,true,true,false,false,false] rfl rfl (one_of HT_.out (by kernel_rfl)) (by decide) (fun K hK => ?_)
              refine goes_ Try.func121 (by kernel_rfl) rfl #[.agg #[.int .i64 ((rd_T92 l0_3 (ji22)).f0),.string ((rd_T92 l0_3 (ji22)).f1),.int .i64 ((rd_T92 l0_3 (ji22)).f2),.int .i64 ((rd_T92 l0_3 (ji22)).f3)],.agg #[.int .i64 ((rd_T92 l0_3 x34_2).f0),.string ((rd_T92 l0_3 x34_2).f1),.int .i64 ((rd_T92 l0_3 x34_2).f2),.int .i64 ((rd_T92 l0_3 x34_2).f3)]] (by rfl) rfl rfl (by (try simp only [List.map_toArray,List.map_cons,List.map_nil]);first|done|(simp only [hji22];rfl)|rfl|(simp only [List.length_drop,List.length_take];rfl)) ?_
              with_reducible refine (spec_l3Before.calls ((rd_T92 l0_3 (ji22)).f0) ((rd_T92 l0_3 (ji22)).f1) ((rd_T92 l0_3 (ji22)).f2) ((rd_T92 l0_3 (ji22)).f3) ((rd_T92 l0_3 x34_2).f0) ((rd_T92 l0_3 x34_2).f1) ((rd_T92 l0_3 x34_2).f2) ((rd_T92 l0_3 x34_2).f3) true _ A25.out).mono ?_
              rintro e w33 ⟨rfl,hb⟩
              refine ⟨_,rfl,?_⟩
              replace BK119:=Aside0.mk (kb_ BK119.out hb)
              replace BK124:=Aside0.mk (kb_ BK124.out hb)
              replace HB:=Aside0.mk (below_step (be2_ HB.out GE119.out GE124.out) hb)
              (try clear hb)
              (try clear hb2)
              (try clear hk)
              (try clear hi)
              refine hK.out _ _ ⟨(blk_cell BK119.out 0).trans rfl,(blk_cell BK119.out 1).trans rfl,(blk_cell BK119.out 2).trans rfl,(blk_cell BK119.out 3).trans rfl,(blk_cell BK124.out 0).trans rfl,(blk_cell BK124.out 1).trans rfl,(blk_cell BK124.out 2).trans rfl,(blk_cell BK124.out 3).trans rfl,((HB.out.cell (World.block_lt_of_cell? w _ hw126_0)).trans hw126_0),((HB.out.cell (World.block_lt_of_cell? w _ hw126_1)).trans hw126_1),((HB.out.cell (World.block_lt_of_cell? w _ hw126_2)).trans hw126_2),((HB.out.cell (World.block_lt_of_cell? w _ hw126_3)).trans hw126_3)⟩ (fun hHeld => ?_)
              clear hK K
              refine norm_ (a':=?_) ?_ ?_
              rotate_left
              ·show Act.put _ (some 55) _ = _
               simp only [Act.put,List.setIfInBounds_toArray,List.set_cons_zero,List.set_cons_succ,i64_w,i32_w]
               rfl
              refine stW_ [.p 17 56,.p 18 57,.p 19 58] 3 1048575 20 HT_.out HW_.out hHeld (a':=?_) ?_ rfl (by kernel_rfl) (fun _ _ _ _ h => h) ?_
              rotate_left
              ·repeat (first|exact Steps.nil|(refine Steps.p (oi:=?_) (v:=?_) (a1:=?_) ?_ ?_ ?_ ?_ ?_;rotate_left 2;rfl;rfl;(refine Or.inl ⟨by rfl,?_⟩;intro w';go_simp;with_reducible rfl);rotate_left;(simp only [Act.put,List.setIfInBounds_toArray,List.set_cons_zero,List.set_cons_succ,i64_w,i32_w];rfl)))
              refine done_ (done_of HT_.out (by kernel_rfl)) ?_
              try go_wp2
              go_roundg k2
              case measure => have:=HJ1.out;have:=HK2.out;omega
              case rel => exact ⟨(wrap64 (x34_2 + 1)),rs_,H',⟨by have:=HJ1.out;have:=HK2.out;omega⟩,⟨pe_ BK119.out⟩,⟨be2_ HB.out GE119.out GE124.out⟩⟩
             ·replace c26:=Bool.eq_false_iff.mpr c26
              subst c26
              have H1 : (some false) = some r:=by rw [if_neg (show ¬ (false = true) by decide)] at H;exact H
              clear H
              have H:=H1
              clear H1
              obtain rfl:=Option.some.inj H
              have p123 : 0 ≤ (x34_2 : Int):=of_decide_eq_true (by first|(with_reducible assumption)|assumption)
              have q123 : x34_2 < (l0_3.length : Int):=of_decide_eq_true (by first|(with_reducible assumption)|assumption)
              obtain ⟨ad123,e123,hx123_0,hx123_1,hx123_2,hx123_3⟩:=at_T92 HR0_3.out x34_2 p123 q123
              cases e123
              replace hx123_0:=hbc_ HB.out hx123_0
              replace hx123_1:=hbc_ HB.out hx123_1
              replace hx123_2:=hbc_ HB.out hx123_2
              replace hx123_3:=hbc_ HB.out hx123_3
              replace p123:=eq_true p123
              replace q123:=eq_true q123
              try go_wp2_with (first|((with_reducible refine gate_dst (N:=4) rfl ?_);(try (refine gate_guard (by rfl) ?_;dsimp only));refine box_event ?hg (N:=4) ?hd (cs:=#[.int .i64 0,.string (⟨#[]⟩ : ByteArray),.int .i64 0,.int .i64 0]) (t:=92) ?hr ?_;(case hd => rfl);(case hg => rfl);(case hr => first|(go_simp;done)|(go_simp;rfl));intro gb124 hg w34 hbox hb;have BK124:=Aside0.mk (hbox);have GW124:=Aside0.mk (szg_ hg (below_size (be1_ HB.out GE119.out)));have GE124:=Aside0.mk (szg_ hg (below_size (be1_ HB.out GE119.out)));replace HB:=Aside0.mk (below_step (be1_ HB.out GE119.out) hb);have NB119_124:=Aside0.mk (nl_ hg BK119.out);have NB124_119:=Aside0.mk (ng_ hg BK119.out);replace BK119:=Aside0.mk (kb_ BK119.out hb);clear hb hbox hg;have hnb35:=NB124_119.out;have hnc35:=NB119_124.out;obtain ⟨hcz36_0,hcz36_1,hcz36_2,hcz36_3,hfz36_0,hfz36_1,hfz36_2,hfz36_3⟩:=cf4_ BK124.out))
              have n0_ : Aside0 (((((w34.setCell ⟨gb124,0,none⟩ (.int .i64 ((rd_T92 l0_3 x34_2).f0))).setCell ⟨gb124,1,none⟩ (.string ((rd_T92 l0_3 x34_2).f1))).setCell ⟨gb124,2,none⟩ (.int .i64 ((rd_T92 l0_3 x34_2).f2))).setCell ⟨gb124,3,none⟩ (.int .i64 ((rd_T92 l0_3 x34_2).f3))).heap[gb119]? = some (.cells #[.int .i64 a0_0,.slice A0_1 l0_1.length c0_1,.slice A0_2 l0_2.length c0_2,.slice (some ad123) l0_3.length c0_3] 33 (0,0))):=⟨by refine pe_ ?_;refine blk_far ?_ NB119_124.out _;refine pe_ ?_;refine blk_far ?_ NB119_124.out _;refine pe_ ?_;refine blk_far ?_ NB119_124.out _;refine pe_ ?_;refine blk_far ?_ NB119_124.out _;refine pe_ ?_;exact BK119.out⟩
              have n1_ : Aside0 (((((w34.setCell ⟨gb124,0,none⟩ (.int .i64 ((rd_T92 l0_3 x34_2).f0))).setCell ⟨gb124,1,none⟩ (.string ((rd_T92 l0_3 x34_2).f1))).setCell ⟨gb124,2,none⟩ (.int .i64 ((rd_T92 l0_3 x34_2).f2))).setCell ⟨gb124,3,none⟩ (.int .i64 ((rd_T92 l0_3 x34_2).f3))).heap[gb124]? = some (.cells #[.int .i64 ((rd_T92 l0_3 x34_2).f0),.string ((rd_T92 l0_3 x34_2).f1),.int .i64 ((rd_T92 l0_3 x34_2).f2),.int .i64 ((rd_T92 l0_3 x34_2).f3)] 92 (0,0))):=⟨by refine pe_ ?_;refine blk_put (cs:=#[.int .i64 ((rd_T92 l0_3 x34_2).f0),.string ((rd_T92 l0_3 x34_2).f1),.int .i64 ((rd_T92 l0_3 x34_2).f2),.int .i64 0]) ?_ 3 _ rfl;refine pe_ ?_;refine blk_put (cs:=#[.int .i64 ((rd_T92 l0_3 x34_2).f0),.string ((rd_T92 l0_3 x34_2).f1),.int .i64 0,.int .i64 0]) ?_ 2 _ rfl;refine pe_ ?_;refine blk_put (cs:=#[.int .i64 ((rd_T92 l0_3 x34_2).f0),.string (⟨#[]⟩ : ByteArray),.int .i64 0,.int .i64 0]) ?_ 1 _ rfl;refine pe_ ?_;refine blk_put (cs:=#[.int .i64 0,.string (⟨#[]⟩ : ByteArray),.int .i64 0,.int .i64 0]) ?_ 0 _ rfl;refine pe_ ?_;exact BK124.out⟩
              have n2_ : Aside0 (Below w.heap.size w ((((w34.setCell ⟨gb124,0,none⟩ (.int .i64 ((rd_T92 l0_3 x34_2).f0))).setCell ⟨gb124,1,none⟩ (.string ((rd_T92 l0_3 x34_2).f1))).setCell ⟨gb124,2,none⟩ (.int .i64 ((rd_T92 l0_3 x34_2).f2))).setCell ⟨gb124,3,none⟩ (.int .i64 ((rd_T92 l0_3 x34_2).f3)))):=⟨be2_ HB.out GE119.out GE124.out⟩
              (try clear BK119)
              (try clear BK124)
              (try clear HB)
              generalize ((((w34.setCell ⟨gb124,0,none⟩ (.int .i64 ((rd_T92 l0_3 x34_2).f0))).setCell ⟨gb124,1,none⟩ (.string ((rd_T92 l0_3 x34_2).f1))).setCell ⟨gb124,2,none⟩ (.int .i64 ((rd_T92 l0_3 x34_2).f2))).setCell ⟨gb124,3,none⟩ (.int .i64 ((rd_T92 l0_3 x34_2).f3))) = w37 at n0_ n1_ n2_ ⊢
              have BK119:=n0_
              have BK124:=n1_
              have HB:=n2_
              clear n0_ n1_ n2_
              replace BK119:=Aside0.mk (blk_drew BK119.out)
              replace BK124:=Aside0.mk (blk_drew BK124.out)
              replace HB:=Aside0.mk (below_drew1 HB.out)
              have p126 : 0 ≤ ((ji22) : Int):=of_decide_eq_true (by first|(with_reducible assumption)|assumption)
              have q126 : (ji22) < (l0_3.length : Int):=of_decide_eq_true (by first|(with_reducible assumption)|assumption)
              obtain ⟨ad126,e126,hx126_0,hx126_1,hx126_2,hx126_3⟩:=at_T92 HR0_3.out (ji22) p126 q126
              have hw126_3:=hx126_3
              have hw126_2:=hx126_2
              have hw126_1:=hx126_1
              have hw126_0:=hx126_0
              obtain rfl : ad123 = ad126:=(by injection e126)
              replace hx126_0:=hbc_ HB.out hx126_0
              replace hx126_1:=hbc_ HB.out hx126_1
              replace hx126_2:=hbc_ HB.out hx126_2
              replace hx126_3:=hbc_ HB.out hx126_3
              replace p126:=eq_true p126
              replace q126:=eq_true q126
              refine start_ (n:=20) (S:=fun w' => w'.cell? ⟨gb119,0,none⟩ = some (.int .i64 a0_0) ∧ w'.cell? ⟨gb119,1,none⟩ = some (.slice A0_1 l0_1.length c0_1) ∧ w'.cell? ⟨gb119,2,none⟩ = some (.slice A0_2 l0_2.length c0_2) ∧ w'.cell? ⟨gb119,3,none⟩ = some (.slice (some ad123) l0_3.length c0_3) ∧ w'.cell? ⟨gb124,0,none⟩ = some (.int .i64 ((rd_T92 l0_3 x34_2).f0)) ∧ w'.cell? ⟨gb124,1,none⟩ = some (.string ((rd_T92 l0_3 x34_2).f1)) ∧ w'.cell? ⟨gb124,2,none⟩ = some (.int .i64 ((rd_T92 l0_3 x34_2).f2)) ∧ w'.cell? ⟨gb124,3,none⟩ = some (.int .i64 ((rd_T92 l0_3 x34_2).f3)) ∧ w'.cell? (ad123.add (((ji22)).toNat * 4)) = some (.int .i64 ((rd_T92 l0_3 (ji22)).f0)) ∧ w'.cell? ⟨(ad123.add (((ji22)).toNat * 4)).block,(ad123.add (((ji22)).toNat * 4)).off + 1,none⟩ = some (.string ((rd_T92 l0_3 (ji22)).f1)) ∧ w'.cell? ⟨(ad123.add (((ji22)).toNat * 4)).block,(ad123.add (((ji22)).toNat * 4)).off + 2,none⟩ = some (.int .i64 ((rd_T92 l0_3 (ji22)).f2)) ∧ w'.cell? ⟨(ad123.add (((ji22)).toNat * 4)).block,(ad123.add (((ji22)).toNat * 4)).off + 3,none⟩ = some (.int .i64 ((rd_T92 l0_3 (ji22)).f3))) (ds:=[]) #[false,false,false,false,false,false,false,false,false,false,false,false,false,false,false,false,false,false,false,false] (by kernel_rfl) rfl rfl ⟨(blk_cell BK119.out 0).trans rfl,(blk_cell BK119.out 1).trans rfl,(blk_cell BK119.out 2).trans rfl,(blk_cell BK119.out 3).trans rfl,(blk_cell BK124.out 0).trans rfl,(blk_cell BK124.out 1).trans rfl,(blk_cell BK124.out 2).trans rfl,(blk_cell BK124.out 3).trans rfl,((HB.out.cell (World.block_lt_of_cell? w _ hw126_0)).trans hw126_0),((HB.out.cell (World.block_lt_of_cell? w _ hw126_1)).trans hw126_1),((HB.out.cell (World.block_lt_of_cell? w _ hw126_2)).trans hw126_2),((HB.out.cell (World.block_lt_of_cell? w _ hw126_3)).trans hw126_3)⟩ (fun hHeld => ?_);refine with_tabW spec_AutomatonValid.tab6 spec_AutomatonValid.bits6 (fun HT_ HW_ => ?_)
              generalize w37.drew = w38 at BK119 BK124 HB hx126_0 hx126_1 hx126_2 hx126_3 hHeld ⊢
              refine stW_ [.p 0 39,.t 1 40,.t 2 41] 3 7 20 HT_.out HW_.out hHeld (a':=?_) ?_ rfl (by kernel_rfl) (fun _ _ _ _ h => h) ?_
              rotate_left
              ·repeat (first|exact Steps.nil|(refine Steps.p (oi:=?_) (v:=?_) (a1:=?_) ?_ ?_ ?_ ?_ ?_;rotate_left 2;rfl;rfl;(refine Or.inl ⟨by rfl,?_⟩;intro w';go_simp;with_reducible rfl);rotate_left;(simp only [Act.put,List.setIfInBounds_toArray,List.set_cons_zero,List.set_cons_succ,i64_w,i32_w];rfl))|(refine Steps.t (oi:=?_) (v:=?_) (a1:=?_) ?_ ?_ ?_ ?_ ?_;rotate_left 2;rfl;rfl;(refine Or.inl ⟨by rfl,?_⟩;rintro w' ⟨s0,s1,s2,s3,s4,s5,s6,s7,s8,s9,s10,s11⟩;go_simp;with_reducible rfl);rotate_left;(simp only [Act.put,List.setIfInBounds_toArray,List.set_cons_zero,List.set_cons_succ,i64_w,i32_w];rfl)))
              refine one_ (i:=3) (N:=some 42) #[true,true,true,true,false,false,false,false,false,false,false,false,false,false,false,false,false,false,false,false] rfl rfl (one_of HT_.out (by kernel_rfl)) (by decide) (fun K hK => ?_)
              refine goes_ Try.func120 (by kernel_rfl) rfl #[.int .i64 a0_0,.agg #[.int .i64 ((rd_T92 l0_3 x34_2).f0),.string ((rd_T92 l0_3 x34_2).f1),.int .i64 ((rd_T92 l0_3 x34_2).f2),.int .i64 ((rd_T92 l0_3 x34_2).f3)]] (by rfl) rfl rfl lp_ ?_
              with_reducible refine (spec_l3Step.calls a0_0 ((rd_T92 l0_3 x34_2).f0) ((rd_T92 l0_3 x34_2).f1) ((rd_T92 l0_3 x34_2).f2) ((rd_T92 l0_3 x34_2).f3) true _ A19.out).mono ?_
              rintro e w39 ⟨rfl,hb⟩
              refine ⟨_,rfl,?_⟩
              replace BK119:=Aside0.mk (kb_ BK119.out hb)
              replace BK124:=Aside0.mk (kb_ BK124.out hb)
              replace HB:=Aside0.mk (below_step (be2_ HB.out GE119.out GE124.out) hb)
              (try clear hb)
              (try clear hb2)
              (try clear hk)
              (try clear hi)
              refine hK.out _ _ ⟨(blk_cell BK119.out 0).trans rfl,(blk_cell BK119.out 1).trans rfl,(blk_cell BK119.out 2).trans rfl,(blk_cell BK119.out 3).trans rfl,(blk_cell BK124.out 0).trans rfl,(blk_cell BK124.out 1).trans rfl,(blk_cell BK124.out 2).trans rfl,(blk_cell BK124.out 3).trans rfl,((HB.out.cell (World.block_lt_of_cell? w _ hw126_0)).trans hw126_0),((HB.out.cell (World.block_lt_of_cell? w _ hw126_1)).trans hw126_1),((HB.out.cell (World.block_lt_of_cell? w _ hw126_2)).trans hw126_2),((HB.out.cell (World.block_lt_of_cell? w _ hw126_3)).trans hw126_3)⟩ (fun hHeld => ?_)
              clear hK K
              refine norm_ (a':=?_) ?_ ?_
              rotate_left
              ·show Act.put _ (some 42) _ = _
               simp only [Act.put,List.setIfInBounds_toArray,List.set_cons_zero,List.set_cons_succ,i64_w,i32_w]
               rfl
              refine stW_ [.p 4 43,.p 5 44,.p 6 45,.p 7 46,.p 8 47,.p 9 48,.p 11 50,.p 12 51,.t 10 49,.p 13 52,.t 14 53,.t 15 54] 12 65535 20 HT_.out HW_.out hHeld (a':=?_) ?_ rfl (by kernel_rfl) (fun _ _ _ _ h => h) ?_
              rotate_left
              ·repeat (first|exact Steps.nil|(refine Steps.p (oi:=?_) (v:=?_) (a1:=?_) ?_ ?_ ?_ ?_ ?_;rotate_left 2;rfl;rfl;(refine Or.inl ⟨by rfl,?_⟩;intro w';go_simp;with_reducible rfl);rotate_left;(simp only [Act.put,List.setIfInBounds_toArray,List.set_cons_zero,List.set_cons_succ,i64_w,i32_w];rfl))|(refine Steps.t (oi:=?_) (v:=?_) (a1:=?_) ?_ ?_ ?_ ?_ ?_;rotate_left 2;rfl;rfl;(refine Or.inl ⟨by rfl,?_⟩;rintro w' ⟨s0,s1,s2,s3,s4,s5,s6,s7,s8,s9,s10,s11⟩;go_simp;with_reducible rfl);rotate_left;(simp only [Act.put,List.setIfInBounds_toArray,List.set_cons_zero,List.set_cons_succ,i64_w,i32_w];rfl)))
              refine one_ (i:=16) (N:=some 55) #[true,true,true,true,true,true,true,true,true,true,true,true,true,true,true,true,true,false,false,false] rfl rfl (one_of HT_.out (by kernel_rfl)) (by decide) (fun K hK => ?_)
              refine goes_ Try.func121 (by kernel_rfl) rfl #[.agg #[.int .i64 ((rd_T92 l0_3 (ji22)).f0),.string ((rd_T92 l0_3 (ji22)).f1),.int .i64 ((rd_T92 l0_3 (ji22)).f2),.int .i64 ((rd_T92 l0_3 (ji22)).f3)],.agg #[.int .i64 ((rd_T92 l0_3 x34_2).f0),.string ((rd_T92 l0_3 x34_2).f1),.int .i64 ((rd_T92 l0_3 x34_2).f2),.int .i64 ((rd_T92 l0_3 x34_2).f3)]] (by rfl) rfl rfl (by (try simp only [List.map_toArray,List.map_cons,List.map_nil]);first|done|(simp only [hji22];rfl)|rfl|(simp only [List.length_drop,List.length_take];rfl)) ?_
              with_reducible refine (spec_l3Before.calls ((rd_T92 l0_3 (ji22)).f0) ((rd_T92 l0_3 (ji22)).f1) ((rd_T92 l0_3 (ji22)).f2) ((rd_T92 l0_3 (ji22)).f3) ((rd_T92 l0_3 x34_2).f0) ((rd_T92 l0_3 x34_2).f1) ((rd_T92 l0_3 x34_2).f2) ((rd_T92 l0_3 x34_2).f3) false _ A25.out).mono ?_
              rintro e w40 ⟨rfl,hb⟩
              refine ⟨_,rfl,?_⟩
              replace BK119:=Aside0.mk (kb_ BK119.out hb)
              replace BK124:=Aside0.mk (kb_ BK124.out hb)
              replace HB:=Aside0.mk (below_step (be2_ HB.out GE119.out GE124.out) hb)
              (try clear hb)
              (try clear hb2)
              (try clear hk)
              (try clear hi)
              refine hK.out _ _ ⟨(blk_cell BK119.out 0).trans rfl,(blk_cell BK119.out 1).trans rfl,(blk_cell BK119.out 2).trans rfl,(blk_cell BK119.out 3).trans rfl,(blk_cell BK124.out 0).trans rfl,(blk_cell BK124.out 1).trans rfl,(blk_cell BK124.out 2).trans rfl,(blk_cell BK124.out 3).trans rfl,((HB.out.cell (World.block_lt_of_cell? w _ hw126_0)).trans hw126_0),((HB.out.cell (World.block_lt_of_cell? w _ hw126_1)).trans hw126_1),((HB.out.cell (World.block_lt_of_cell? w _ hw126_2)).trans hw126_2),((HB.out.cell (World.block_lt_of_cell? w _ hw126_3)).trans hw126_3)⟩ (fun hHeld => ?_)
              clear hK K
              refine norm_ (a':=?_) ?_ ?_
              rotate_left
              ·show Act.put _ (some 55) _ = _
               simp only [Act.put,List.setIfInBounds_toArray,List.set_cons_zero,List.set_cons_succ,i64_w,i32_w]
               rfl
              refine stW_ [.p 17 56,.p 18 57,.p 19 58] 3 1048575 20 HT_.out HW_.out hHeld (a':=?_) ?_ rfl (by kernel_rfl) (fun _ _ _ _ h => h) ?_
              rotate_left
              ·repeat (first|exact Steps.nil|(refine Steps.p (oi:=?_) (v:=?_) (a1:=?_) ?_ ?_ ?_ ?_ ?_;rotate_left 2;rfl;rfl;(refine Or.inl ⟨by rfl,?_⟩;intro w';go_simp;with_reducible rfl);rotate_left;(simp only [Act.put,List.setIfInBounds_toArray,List.set_cons_zero,List.set_cons_succ,i64_w,i32_w];rfl)))
              refine done_ (done_of HT_.out (by kernel_rfl)) ?_
              try go_wp2
              go_ret
              exact ⟨by first|rfl|(simp [errW_none,errW_some] <;> rfl)|(simp only [← hji22];first|rfl|(simp [errW_none,errW_some] <;> rfl))|(simp [*,errW_none,errW_some] <;> rfl),be2_ HB.out GE119.out GE124.out⟩
            ·rw [if_neg c24] at H
             exact absurd H (by simp)
           ·rw [if_neg c23] at H
            exact absurd H (by simp)
          ·rw [if_neg c21] at H
           have c21b0 : decide (0 < x34_2) = false:=decide_eq_false c21
           clear c21
           have H':=Aside0.mk H
           clear H
           have p123 : 0 ≤ (x34_2 : Int):=of_decide_eq_true (by first|(with_reducible assumption)|assumption)
           have q123 : x34_2 < (l0_3.length : Int):=of_decide_eq_true (by first|(with_reducible assumption)|assumption)
           obtain ⟨ad123,e123,hx123_0,hx123_1,hx123_2,hx123_3⟩:=at_T92 HR0_3.out x34_2 p123 q123
           cases e123
           replace hx123_0:=hbc_ HB.out hx123_0
           replace hx123_1:=hbc_ HB.out hx123_1
           replace hx123_2:=hbc_ HB.out hx123_2
           replace hx123_3:=hbc_ HB.out hx123_3
           replace p123:=eq_true p123
           replace q123:=eq_true q123
           try go_wp2_with (first|((with_reducible refine gate_dst (N:=4) rfl ?_);(try (refine gate_guard (by rfl) ?_;dsimp only));refine box_event ?hg (N:=4) ?hd (cs:=#[.int .i64 0,.string (⟨#[]⟩ : ByteArray),.int .i64 0,.int .i64 0]) (t:=92) ?hr ?_;(case hd => rfl);(case hg => rfl);(case hr => first|(go_simp;done)|(go_simp;rfl));intro gb124 hg w41 hbox hb;have BK124:=Aside0.mk (hbox);have GW124:=Aside0.mk (szg_ hg (below_size (be1_ HB.out GE119.out)));have GE124:=Aside0.mk (szg_ hg (below_size (be1_ HB.out GE119.out)));replace HB:=Aside0.mk (below_step (be1_ HB.out GE119.out) hb);have NB119_124:=Aside0.mk (nl_ hg BK119.out);have NB124_119:=Aside0.mk (ng_ hg BK119.out);replace BK119:=Aside0.mk (kb_ BK119.out hb);clear hb hbox hg;have hnb42:=NB124_119.out;have hnc42:=NB119_124.out;obtain ⟨hcz43_0,hcz43_1,hcz43_2,hcz43_3,hfz43_0,hfz43_1,hfz43_2,hfz43_3⟩:=cf4_ BK124.out))
           have n0_ : Aside0 (((((w41.setCell ⟨gb124,0,none⟩ (.int .i64 ((rd_T92 l0_3 x34_2).f0))).setCell ⟨gb124,1,none⟩ (.string ((rd_T92 l0_3 x34_2).f1))).setCell ⟨gb124,2,none⟩ (.int .i64 ((rd_T92 l0_3 x34_2).f2))).setCell ⟨gb124,3,none⟩ (.int .i64 ((rd_T92 l0_3 x34_2).f3))).heap[gb119]? = some (.cells #[.int .i64 a0_0,.slice A0_1 l0_1.length c0_1,.slice A0_2 l0_2.length c0_2,.slice (some ad123) l0_3.length c0_3] 33 (0,0))):=⟨by refine pe_ ?_;refine blk_far ?_ NB119_124.out _;refine pe_ ?_;refine blk_far ?_ NB119_124.out _;refine pe_ ?_;refine blk_far ?_ NB119_124.out _;refine pe_ ?_;refine blk_far ?_ NB119_124.out _;refine pe_ ?_;exact BK119.out⟩
           have n1_ : Aside0 (((((w41.setCell ⟨gb124,0,none⟩ (.int .i64 ((rd_T92 l0_3 x34_2).f0))).setCell ⟨gb124,1,none⟩ (.string ((rd_T92 l0_3 x34_2).f1))).setCell ⟨gb124,2,none⟩ (.int .i64 ((rd_T92 l0_3 x34_2).f2))).setCell ⟨gb124,3,none⟩ (.int .i64 ((rd_T92 l0_3 x34_2).f3))).heap[gb124]? = some (.cells #[.int .i64 ((rd_T92 l0_3 x34_2).f0),.string ((rd_T92 l0_3 x34_2).f1),.int .i64 ((rd_T92 l0_3 x34_2).f2),.int .i64 ((rd_T92 l0_3 x34_2).f3)] 92 (0,0))):=⟨by refine pe_ ?_;refine blk_put (cs:=#[.int .i64 ((rd_T92 l0_3 x34_2).f0),.string ((rd_T92 l0_3 x34_2).f1),.int .i64 ((rd_T92 l0_3 x34_2).f2),.int .i64 0]) ?_ 3 _ rfl;refine pe_ ?_;refine blk_put (cs:=#[.int .i64 ((rd_T92 l0_3 x34_2).f0),.string ((rd_T92 l0_3 x34_2).f1),.int .i64 0,.int .i64 0]) ?_ 2 _ rfl;refine pe_ ?_;refine blk_put (cs:=#[.int .i64 ((rd_T92 l0_3 x34_2).f0),.string (⟨#[]⟩ : ByteArray),.int .i64 0,.int .i64 0]) ?_ 1 _ rfl;refine pe_ ?_;refine blk_put (cs:=#[.int .i64 0,.string (⟨#[]⟩ : ByteArray),.int .i64 0,.int .i64 0]) ?_ 0 _ rfl;refine pe_ ?_;exact BK124.out⟩
           have n2_ : Aside0 (Below w.heap.size w ((((w41.setCell ⟨gb124,0,none⟩ (.int .i64 ((rd_T92 l0_3 x34_2).f0))).setCell ⟨gb124,1,none⟩ (.string ((rd_T92 l0_3 x34_2).f1))).setCell ⟨gb124,2,none⟩ (.int .i64 ((rd_T92 l0_3 x34_2).f2))).setCell ⟨gb124,3,none⟩ (.int .i64 ((rd_T92 l0_3 x34_2).f3)))):=⟨be2_ HB.out GE119.out GE124.out⟩
           (try clear BK119)
           (try clear BK124)
           (try clear HB)
           generalize ((((w41.setCell ⟨gb124,0,none⟩ (.int .i64 ((rd_T92 l0_3 x34_2).f0))).setCell ⟨gb124,1,none⟩ (.string ((rd_T92 l0_3 x34_2).f1))).setCell ⟨gb124,2,none⟩ (.int .i64 ((rd_T92 l0_3 x34_2).f2))).setCell ⟨gb124,3,none⟩ (.int .i64 ((rd_T92 l0_3 x34_2).f3))) = w44 at n0_ n1_ n2_ ⊢
           have BK119:=n0_
           have BK124:=n1_
           have HB:=n2_
           clear n0_ n1_ n2_
           replace BK119:=Aside0.mk (blk_drew BK119.out)
           replace BK124:=Aside0.mk (blk_drew BK124.out)
           replace HB:=Aside0.mk (below_drew1 HB.out)
           refine start_ (n:=20) (S:=fun w' => w'.cell? ⟨gb119,0,none⟩ = some (.int .i64 a0_0) ∧ w'.cell? ⟨gb119,1,none⟩ = some (.slice A0_1 l0_1.length c0_1) ∧ w'.cell? ⟨gb119,2,none⟩ = some (.slice A0_2 l0_2.length c0_2) ∧ w'.cell? ⟨gb119,3,none⟩ = some (.slice (some ad123) l0_3.length c0_3) ∧ w'.cell? ⟨gb124,0,none⟩ = some (.int .i64 ((rd_T92 l0_3 x34_2).f0)) ∧ w'.cell? ⟨gb124,1,none⟩ = some (.string ((rd_T92 l0_3 x34_2).f1)) ∧ w'.cell? ⟨gb124,2,none⟩ = some (.int .i64 ((rd_T92 l0_3 x34_2).f2)) ∧ w'.cell? ⟨gb124,3,none⟩ = some (.int .i64 ((rd_T92 l0_3 x34_2).f3))) (ds:=[]) #[false,false,false,false,false,false,false,false,false,false,false,false,false,false,false,false,false,false,false,false] (by kernel_rfl) rfl rfl ⟨(blk_cell BK119.out 0).trans rfl,(blk_cell BK119.out 1).trans rfl,(blk_cell BK119.out 2).trans rfl,(blk_cell BK119.out 3).trans rfl,(blk_cell BK124.out 0).trans rfl,(blk_cell BK124.out 1).trans rfl,(blk_cell BK124.out 2).trans rfl,(blk_cell BK124.out 3).trans rfl⟩ (fun hHeld => ?_);refine with_tabW spec_AutomatonValid.tab6 spec_AutomatonValid.bits6 (fun HT_ HW_ => ?_)
           generalize w44.drew = w45 at BK119 BK124 HB hHeld ⊢
           refine stW_ [.p 0 39,.t 1 40,.t 2 41] 3 7 20 HT_.out HW_.out hHeld (a':=?_) ?_ rfl (by kernel_rfl) (fun _ _ _ _ h => h) ?_
           rotate_left
           ·repeat (first|exact Steps.nil|(refine Steps.p (oi:=?_) (v:=?_) (a1:=?_) ?_ ?_ ?_ ?_ ?_;rotate_left 2;rfl;rfl;(refine Or.inl ⟨by rfl,?_⟩;intro w';go_simp;with_reducible rfl);rotate_left;(simp only [Act.put,List.setIfInBounds_toArray,List.set_cons_zero,List.set_cons_succ,i64_w,i32_w];rfl))|(refine Steps.t (oi:=?_) (v:=?_) (a1:=?_) ?_ ?_ ?_ ?_ ?_;rotate_left 2;rfl;rfl;(refine Or.inl ⟨by rfl,?_⟩;rintro w' ⟨s0,s1,s2,s3,s4,s5,s6,s7⟩;go_simp;with_reducible rfl);rotate_left;(simp only [Act.put,List.setIfInBounds_toArray,List.set_cons_zero,List.set_cons_succ,i64_w,i32_w];rfl)))
           refine one_ (i:=3) (N:=some 42) #[true,true,true,true,false,false,false,false,false,false,false,false,false,false,false,false,false,false,false,false] rfl rfl (one_of HT_.out (by kernel_rfl)) (by decide) (fun K hK => ?_)
           refine goes_ Try.func120 (by kernel_rfl) rfl #[.int .i64 a0_0,.agg #[.int .i64 ((rd_T92 l0_3 x34_2).f0),.string ((rd_T92 l0_3 x34_2).f1),.int .i64 ((rd_T92 l0_3 x34_2).f2),.int .i64 ((rd_T92 l0_3 x34_2).f3)]] (by rfl) rfl rfl lp_ ?_
           with_reducible refine (spec_l3Step.calls a0_0 ((rd_T92 l0_3 x34_2).f0) ((rd_T92 l0_3 x34_2).f1) ((rd_T92 l0_3 x34_2).f2) ((rd_T92 l0_3 x34_2).f3) true _ A19.out).mono ?_
           rintro e w46 ⟨rfl,hb⟩
           refine ⟨_,rfl,?_⟩
           replace BK119:=Aside0.mk (kb_ BK119.out hb)
           replace BK124:=Aside0.mk (kb_ BK124.out hb)
           replace HB:=Aside0.mk (below_step (be2_ HB.out GE119.out GE124.out) hb)
           (try clear hb)
           (try clear hb2)
           (try clear hk)
           (try clear hi)
           refine hK.out _ _ ⟨(blk_cell BK119.out 0).trans rfl,(blk_cell BK119.out 1).trans rfl,(blk_cell BK119.out 2).trans rfl,(blk_cell BK119.out 3).trans rfl,(blk_cell BK124.out 0).trans rfl,(blk_cell BK124.out 1).trans rfl,(blk_cell BK124.out 2).trans rfl,(blk_cell BK124.out 3).trans rfl⟩ (fun hHeld => ?_)
           clear hK K
           refine norm_ (a':=?_) ?_ ?_
           rotate_left
           ·show Act.put _ (some 42) _ = _
            simp only [Act.put,List.setIfInBounds_toArray,List.set_cons_zero,List.set_cons_succ,i64_w,i32_w]
            rfl
           refine stW_ [.p 4 43,.p 5 44,.p 6 45,.p 7 46,.p 8 47,.u 9 48,.u 10 49,.u 11 50,.u 12 51,.u 13 52,.u 14 53,.u 15 54,.u 16 55,.u 17 56,.p 18 57,.p 19 58] 16 1048575 20 HT_.out HW_.out hHeld (a':=?_) ?_ rfl (by kernel_rfl) (fun _ _ _ _ h => h) ?_
           rotate_left
           ·repeat (first|exact Steps.nil|(refine Steps.u (oi:=?_) (a1:=?_) ?_ ?_ ?_ ?_ ?_;rotate_left 1;rfl;rfl;exact Or.inr ⟨by rfl,rfl⟩;rotate_left;(simp only [Act.put,List.setIfInBounds_toArray,List.set_cons_zero,List.set_cons_succ,i64_w,i32_w];rfl))|(refine Steps.p (oi:=?_) (v:=?_) (a1:=?_) ?_ ?_ ?_ ?_ ?_;rotate_left 2;rfl;rfl;(refine Or.inl ⟨by rfl,?_⟩;intro w';go_simp;with_reducible rfl);rotate_left;(simp only [Act.put,List.setIfInBounds_toArray,List.set_cons_zero,List.set_cons_succ,i64_w,i32_w];rfl)))
           refine done_ (done_of HT_.out (by kernel_rfl)) ?_
           try go_wp2
           go_roundg k2
           case measure => have:=HJ1.out;have:=HK2.out;omega
           case rel => exact ⟨(wrap64 (x34_2 + 1)),rs_,H',⟨by have:=HJ1.out;have:=HK2.out;omega⟩,⟨pe_ BK119.out⟩,⟨be2_ HB.out GE119.out GE124.out⟩⟩
         ·replace c20:=Bool.eq_false_iff.mpr c20
          subst c20
          have H1 : (some false) = some r:=by rw [if_neg (show ¬ (false = true) by decide)] at H;exact H
          clear H
          have H:=H1
          clear H1
          obtain rfl:=Option.some.inj H
          have p123 : 0 ≤ (x34_2 : Int):=of_decide_eq_true (by first|(with_reducible assumption)|assumption)
          have q123 : x34_2 < (l0_3.length : Int):=of_decide_eq_true (by first|(with_reducible assumption)|assumption)
          obtain ⟨ad123,e123,hx123_0,hx123_1,hx123_2,hx123_3⟩:=at_T92 HR0_3.out x34_2 p123 q123
          cases e123
          replace hx123_0:=hbc_ HB.out hx123_0
          replace hx123_1:=hbc_ HB.out hx123_1
          replace hx123_2:=hbc_ HB.out hx123_2
          replace hx123_3:=hbc_ HB.out hx123_3
          replace p123:=eq_true p123
          replace q123:=eq_true q123
          try go_wp2_with (first|((with_reducible refine gate_dst (N:=4) rfl ?_);(try (refine gate_guard (by rfl) ?_;dsimp only));refine box_event ?hg (N:=4) ?hd (cs:=#[.int .i64 0,.string (⟨#[]⟩ : ByteArray),.int .i64 0,.int .i64 0]) (t:=92) ?hr ?_;(case hd => rfl);(case hg => rfl);(case hr => first|(go_simp;done)|(go_simp;rfl));intro gb124 hg w47 hbox hb;have BK124:=Aside0.mk (hbox);have GW124:=Aside0.mk (szg_ hg (below_size (be1_ HB.out GE119.out)));have GE124:=Aside0.mk (szg_ hg (below_size (be1_ HB.out GE119.out)));replace HB:=Aside0.mk (below_step (be1_ HB.out GE119.out) hb);have NB119_124:=Aside0.mk (nl_ hg BK119.out);have NB124_119:=Aside0.mk (ng_ hg BK119.out);replace BK119:=Aside0.mk (kb_ BK119.out hb);clear hb hbox hg;have hnb48:=NB124_119.out;have hnc48:=NB119_124.out;obtain ⟨hcz49_0,hcz49_1,hcz49_2,hcz49_3,hfz49_0,hfz49_1,hfz49_2,hfz49_3⟩:=cf4_ BK124.out))
          have n0_ : Aside0 (((((w47.setCell ⟨gb124,0,none⟩ (.int .i64 ((rd_T92 l0_3 x34_2).f0))).setCell ⟨gb124,1,none⟩ (.string ((rd_T92 l0_3 x34_2).f1))).setCell ⟨gb124,2,none⟩ (.int .i64 ((rd_T92 l0_3 x34_2).f2))).setCell ⟨gb124,3,none⟩ (.int .i64 ((rd_T92 l0_3 x34_2).f3))).heap[gb119]? = some (.cells #[.int .i64 a0_0,.slice A0_1 l0_1.length c0_1,.slice A0_2 l0_2.length c0_2,.slice (some ad123) l0_3.length c0_3] 33 (0,0))):=⟨by refine pe_ ?_;refine blk_far ?_ NB119_124.out _;refine pe_ ?_;refine blk_far ?_ NB119_124.out _;refine pe_ ?_;refine blk_far ?_ NB119_124.out _;refine pe_ ?_;refine blk_far ?_ NB119_124.out _;refine pe_ ?_;exact BK119.out⟩
          have n1_ : Aside0 (((((w47.setCell ⟨gb124,0,none⟩ (.int .i64 ((rd_T92 l0_3 x34_2).f0))).setCell ⟨gb124,1,none⟩ (.string ((rd_T92 l0_3 x34_2).f1))).setCell ⟨gb124,2,none⟩ (.int .i64 ((rd_T92 l0_3 x34_2).f2))).setCell ⟨gb124,3,none⟩ (.int .i64 ((rd_T92 l0_3 x34_2).f3))).heap[gb124]? = some (.cells #[.int .i64 ((rd_T92 l0_3 x34_2).f0),.string ((rd_T92 l0_3 x34_2).f1),.int .i64 ((rd_T92 l0_3 x34_2).f2),.int .i64 ((rd_T92 l0_3 x34_2).f3)] 92 (0,0))):=⟨by refine pe_ ?_;refine blk_put (cs:=#[.int .i64 ((rd_T92 l0_3 x34_2).f0),.string ((rd_T92 l0_3 x34_2).f1),.int .i64 ((rd_T92 l0_3 x34_2).f2),.int .i64 0]) ?_ 3 _ rfl;refine pe_ ?_;refine blk_put (cs:=#[.int .i64 ((rd_T92 l0_3 x34_2).f0),.string ((rd_T92 l0_3 x34_2).f1),.int .i64 0,.int .i64 0]) ?_ 2 _ rfl;refine pe_ ?_;refine blk_put (cs:=#[.int .i64 ((rd_T92 l0_3 x34_2).f0),.string (⟨#[]⟩ : ByteArray),.int .i64 0,.int .i64 0]) ?_ 1 _ rfl;refine pe_ ?_;refine blk_put (cs:=#[.int .i64 0,.string (⟨#[]⟩ : ByteArray),.int .i64 0,.int .i64 0]) ?_ 0 _ rfl;refine pe_ ?_;exact BK124.out⟩
          have n2_ : Aside0 (Below w.heap.size w ((((w47.setCell ⟨gb124,0,none⟩ (.int .i64 ((rd_T92 l0_3 x34_2).f0))).setCell ⟨gb124,1,none⟩ (.string ((rd_T92 l0_3 x34_2).f1))).setCell ⟨gb124,2,none⟩ (.int .i64 ((rd_T92 l0_3 x34_2).f2))).setCell ⟨gb124,3,none⟩ (.int .i64 ((rd_T92 l0_3 x34_2).f3)))):=⟨be2_ HB.out GE119.out GE124.out⟩
          (try clear BK119)
          (try clear BK124)
          (try clear HB)
          generalize ((((w47.setCell ⟨gb124,0,none⟩ (.int .i64 ((rd_T92 l0_3 x34_2).f0))).setCell ⟨gb124,1,none⟩ (.string ((rd_T92 l0_3 x34_2).f1))).setCell ⟨gb124,2,none⟩ (.int .i64 ((rd_T92 l0_3 x34_2).f2))).setCell ⟨gb124,3,none⟩ (.int .i64 ((rd_T92 l0_3 x34_2).f3))) = w50 at n0_ n1_ n2_ ⊢
          have BK119:=n0_
          have BK124:=n1_
          have HB:=n2_
          clear n0_ n1_ n2_
          replace BK119:=Aside0.mk (blk_drew BK119.out)
          replace BK124:=Aside0.mk (blk_drew BK124.out)
          replace HB:=Aside0.mk (below_drew1 HB.out)
          refine start_ (n:=20) (S:=fun w' => w'.cell? ⟨gb119,0,none⟩ = some (.int .i64 a0_0) ∧ w'.cell? ⟨gb119,1,none⟩ = some (.slice A0_1 l0_1.length c0_1) ∧ w'.cell? ⟨gb119,2,none⟩ = some (.slice A0_2 l0_2.length c0_2) ∧ w'.cell? ⟨gb119,3,none⟩ = some (.slice (some ad123) l0_3.length c0_3) ∧ w'.cell? ⟨gb124,0,none⟩ = some (.int .i64 ((rd_T92 l0_3 x34_2).f0)) ∧ w'.cell? ⟨gb124,1,none⟩ = some (.string ((rd_T92 l0_3 x34_2).f1)) ∧ w'.cell? ⟨gb124,2,none⟩ = some (.int .i64 ((rd_T92 l0_3 x34_2).f2)) ∧ w'.cell? ⟨gb124,3,none⟩ = some (.int .i64 ((rd_T92 l0_3 x34_2).f3))) (ds:=[]) #[false,false,false,false,false,false,false,false,false,false,false,false,false,false,false,false,false,false,false,false] (by kernel_rfl) rfl rfl ⟨(blk_cell BK119.out 0).trans rfl,(blk_cell BK119.out 1).trans rfl,(blk_cell BK119.out 2).trans rfl,(blk_cell BK119.out 3).trans rfl,(blk_cell BK124.out 0).trans rfl,(blk_cell BK124.out 1).trans rfl,(blk_cell BK124.out 2).trans rfl,(blk_cell BK124.out 3).trans rfl⟩ (fun hHeld => ?_);refine with_tabW spec_AutomatonValid.tab6 spec_AutomatonValid.bits6 (fun HT_ HW_ => ?_)
          generalize w50.drew = w51 at BK119 BK124 HB hHeld ⊢
          refine stW_ [.p 0 39,.t 1 40,.t 2 41] 3 7 20 HT_.out HW_.out hHeld (a':=?_) ?_ rfl (by kernel_rfl) (fun _ _ _ _ h => h) ?_
          rotate_left
          ·repeat (first|exact Steps.nil|(refine Steps.p (oi:=?_) (v:=?_) (a1:=?_) ?_ ?_ ?_ ?_ ?_;rotate_left 2;rfl;rfl;(refine Or.inl ⟨by rfl,?_⟩;intro w';go_simp;with_reducible rfl);rotate_left;(simp only [Act.put,List.setIfInBounds_toArray,List.set_cons_zero,List.set_cons_succ,i64_w,i32_w];rfl))|(refine Steps.t (oi:=?_) (v:=?_) (a1:=?_) ?_ ?_ ?_ ?_ ?_;rotate_left 2;rfl;rfl;(refine Or.inl ⟨by rfl,?_⟩;rintro w' ⟨s0,s1,s2,s3,s4,s5,s6,s7⟩;go_simp;with_reducible rfl);rotate_left;(simp only [Act.put,List.setIfInBounds_toArray,List.set_cons_zero,List.set_cons_succ,i64_w,i32_w];rfl)))
          refine one_ (i:=3) (N:=some 42) #[true,true,true,true,false,false,false,false,false,false,false,false,false,false,false,false,false,false,false,false] rfl rfl (one_of HT_.out (by kernel_rfl)) (by decide) (fun K hK => ?_)
          refine goes_ Try.func120 (by kernel_rfl) rfl #[.int .i64 a0_0,.agg #[.int .i64 ((rd_T92 l0_3 x34_2).f0),.string ((rd_T92 l0_3 x34_2).f1),.int .i64 ((rd_T92 l0_3 x34_2).f2),.int .i64 ((rd_T92 l0_3 x34_2).f3)]] (by rfl) rfl rfl lp_ ?_
          with_reducible refine (spec_l3Step.calls a0_0 ((rd_T92 l0_3 x34_2).f0) ((rd_T92 l0_3 x34_2).f1) ((rd_T92 l0_3 x34_2).f2) ((rd_T92 l0_3 x34_2).f3) false _ A19.out).mono ?_
          rintro e w52 ⟨rfl,hb⟩
          refine ⟨_,rfl,?_⟩
          replace BK119:=Aside0.mk (kb_ BK119.out hb)
          replace BK124:=Aside0.mk (kb_ BK124.out hb)
          replace HB:=Aside0.mk (below_step (be2_ HB.out GE119.out GE124.out) hb)
          (try clear hb)
          (try clear hb2)
          (try clear hk)
          (try clear hi)
          refine hK.out _ _ ⟨(blk_cell BK119.out 0).trans rfl,(blk_cell BK119.out 1).trans rfl,(blk_cell BK119.out 2).trans rfl,(blk_cell BK119.out 3).trans rfl,(blk_cell BK124.out 0).trans rfl,(blk_cell BK124.out 1).trans rfl,(blk_cell BK124.out 2).trans rfl,(blk_cell BK124.out 3).trans rfl⟩ (fun hHeld => ?_)
          clear hK K
          refine norm_ (a':=?_) ?_ ?_
          rotate_left
          ·show Act.put _ (some 42) _ = _
           simp only [Act.put,List.setIfInBounds_toArray,List.set_cons_zero,List.set_cons_succ,i64_w,i32_w]
           rfl
          refine stW_ [.p 4 43,.p 5 44,.u 6 45,.u 7 46,.u 8 47,.u 9 48,.u 10 49,.u 11 50,.u 12 51,.u 13 52,.u 14 53,.u 15 54,.u 16 55,.u 17 56,.u 18 57,.p 19 58] 16 1048575 20 HT_.out HW_.out hHeld (a':=?_) ?_ rfl (by kernel_rfl) (fun _ _ _ _ h => h) ?_
          rotate_left
          ·repeat (first|exact Steps.nil|(refine Steps.u (oi:=?_) (a1:=?_) ?_ ?_ ?_ ?_ ?_;rotate_left 1;rfl;rfl;exact Or.inr ⟨by rfl,rfl⟩;rotate_left;(simp only [Act.put,List.setIfInBounds_toArray,List.set_cons_zero,List.set_cons_succ,i64_w,i32_w];rfl))|(refine Steps.p (oi:=?_) (v:=?_) (a1:=?_) ?_ ?_ ?_ ?_ ?_;rotate_left 2;rfl;rfl;(refine Or.inl ⟨by rfl,?_⟩;intro w';go_simp;with_reducible rfl);rotate_left;(simp only [Act.put,List.setIfInBounds_toArray,List.set_cons_zero,List.set_cons_succ,i64_w,i32_w];rfl)))
          refine done_ (done_of HT_.out (by kernel_rfl)) ?_
          try go_wp2
          go_ret
          exact ⟨er_,be2_ HB.out GE119.out GE124.out⟩
        ·rw [if_neg c18] at H
         exact absurd H (by simp)
       ·rw [if_neg c17] at H
        exact absurd H (by simp)
      ·rw [if_neg c16] at H
       have c16b0 : decide (x34_2 < (l0_3.length : Int)) = false:=decide_eq_false c16
       clear c16
       obtain rfl:=Option.some.inj H
       go_wp2
       go_ret
       exact ⟨er_,be1_ HB.out GE119.out⟩
def spec_WordValid.l0 : Nat → ByteArray → Int → Int → Option (Bool)
 | 0,_,_,_ => none
 | k + 1,x0,x5,x6 => if x6 < x5 then (if 0 ≤ x6 then (if x6 < (x0.size : Int) then (if (bt x0 x6) = 97 then (spec_WordValid.l0 k x0 x5 (wrap64 (x6 + 1))) else (if (bt x0 x6) = 98 then (spec_WordValid.l0 k x0 x5 (wrap64 (x6 + 1))) else (some false))) else (none)) else (none)) else (some (decide ((x0.size : Int) ≤ 1000)))
def spec_WordValid.f (k : Nat) (a0 : ByteArray) : Option (Bool):=spec_WordValid.l0 k a0 (a0.size : Int) 0
theorem spec_WordValid.mono_l : ∀ k,(∀ y0 y1 y2,LeO (spec_WordValid.l0 k y0 y1 y2) (spec_WordValid.l0 (k + 1) y0 y1 y2))
 | 0 => fun _ _ _ r h => by simp [spec_WordValid.l0] at h
 | k + 1 => by
  have ih0:=spec_WordValid.mono_l k
  ·intro y0 y1 y2
   unfold spec_WordValid.l0
   repeat' first
   | (with_reducible exact ih0 _ _ _)
   | (with_reducible exact LeO.refl _)
   | (with_reducible exact LeO.none _)
   | (with_reducible refine LeO.ite ?_ ?_)
   | (with_reducible refine LeO.bind ?_ (fun _ => ?_))
   | exact ih0 _ _ _
   | exact LeO.none _
   | refine LeO.ite ?_ ?_
   | refine LeO.bind ?_ (fun _ => ?_)
theorem spec_WordValid.mono : ∀ a0 k,LeO (spec_WordValid.f k a0) (spec_WordValid.f (k + 1) a0):=by
 intro a0 k
 have ih0:=spec_WordValid.mono_l k
 unfold spec_WordValid.f
 repeat' first
   | (with_reducible exact ih0 _ _ _)
   | (with_reducible exact LeO.refl _)
   | (with_reducible exact LeO.none _)
   | (with_reducible refine LeO.ite ?_ ?_)
   | (with_reducible refine LeO.bind ?_ (fun _ => ?_))
   | exact ih0 _ _ _
   | exact LeO.none _
   | refine LeO.ite ?_ ?_
   | refine LeO.bind ?_ (fun _ => ?_)
set_option maxHeartbeats 8000000 in
set_option maxRecDepth 100000 in
theorem spec_WordValid.calls (k : Nat) (a0 : ByteArray) (r : Bool) (w : World) (h : spec_WordValid.f k a0 = some r) :
  Calls Try.prog 130 #[.string a0] w fun e w' => e = .returned (.bool r) ∧ Drawn0 w w':=by
 have H : (spec_WordValid.l0 k a0 (a0.size : Int) 0) = some r:=h
 clear h
 have H':=Aside0.mk H
 clear H
 go_enter Try.func130,Try.ntmps130
 go_wp2
 go_loopg [6] k (fun kq v6 w' => ∃ (x6_1 : Int),v6 = .int .i64 x6_1 ∧ Aside0 (spec_WordValid.l0 kq a0 (a0.size : Int) x6_1 = some r) ∧ Aside0 (kq ≤ k) ∧ Drawn0 w w')
 case atStart => exact ⟨(0),rs_,H',⟨Nat.le_refl _⟩,by repeat (first|exact Drawn0.refl _|apply Drawn0.step)⟩
 case round =>
  clear H'
  try clear c1
  obtain ⟨x6_1,rfl,HA,HK1,⟨m1,rfl⟩⟩:=hrel
  cases gk with
  | zero => exact absurd HA.out (by simp [spec_WordValid.l0])
  | succ k1 =>
   have H:=HA.out
   clear HA
   simp only [spec_WordValid.l0] at H
   by_cases c2 : x6_1 < (a0.size : Int)
   ·rw [if_pos c2] at H
    have c2b0 : decide (x6_1 < (a0.size : Int)) = true:=decide_eq_true c2
    clear c2
    by_cases c3 : 0 ≤ x6_1
    ·rw [if_pos c3] at H
     have c3b0 : decide (0 ≤ x6_1) = true:=decide_eq_true c3
     clear c3
     by_cases c4 : x6_1 < (a0.size : Int)
     ·rw [if_pos c4] at H
      have c4b0 : decide (x6_1 < (a0.size : Int)) = true:=decide_eq_true c4
      clear c4
      by_cases c6 : (bt a0 x6_1) = 97
      ·rw [if_pos c6] at H
       have c6b0 : ((bt a0 x6_1) == 97) = true:=beq_iff_eq.mpr c6
       have c6b1 : ((bt a0 x6_1) != 97) = false:=bne_eq_false_iff_eq.mpr c6
       clear c6
       have H':=Aside0.mk H
       clear H
       have p5 : 0 ≤ (x6_1 : Int):=of_decide_eq_true (by first|(with_reducible assumption)|assumption)
       have q5 : x6_1 < (a0.size : Int):=of_decide_eq_true (by first|(with_reducible assumption)|assumption)
       have hx5:=bt_at a0 x6_1
       replace p5:=eq_true p5
       replace q5:=eq_true q5
       go_wp2
       go_roundg k1
       case measure => have:=HK1.out;omega
       case rel => exact ⟨(wrap64 (x6_1 + 1)),rs_,H',⟨by have:=HK1.out;omega⟩,by repeat (first|exact Drawn0.refl _|apply Drawn0.step)⟩
      ·rw [if_neg c6] at H
       have c6b0 : ((bt a0 x6_1) == 97) = false:=beq_eq_false_iff_ne.mpr c6
       have c6b1 : ((bt a0 x6_1) != 97) = true:=bne_iff_ne.mpr c6
       by_cases c8 : (bt a0 x6_1) = 98
       ·rw [if_pos c8] at H
        have c8b0 : ((bt a0 x6_1) == 98) = true:=beq_iff_eq.mpr c8
        have c8b1 : ((bt a0 x6_1) != 98) = false:=bne_eq_false_iff_eq.mpr c8
        clear c8
        have H':=Aside0.mk H
        clear H
        have p5 : 0 ≤ (x6_1 : Int):=of_decide_eq_true (by first|(with_reducible assumption)|assumption)
        have q5 : x6_1 < (a0.size : Int):=of_decide_eq_true (by first|(with_reducible assumption)|assumption)
        have hx5:=bt_at a0 x6_1
        replace p5:=eq_true p5
        replace q5:=eq_true q5
        have p7 : 0 ≤ (x6_1 : Int):=of_decide_eq_true (by first|(with_reducible assumption)|assumption)
        have q7 : x6_1 < (a0.size : Int):=of_decide_eq_true (by first|(with_reducible assumption)|assumption)
        have hx7:=bt_at a0 x6_1
        replace p7:=eq_true p7
        replace q7:=eq_true q7
        go_wp2
        go_roundg k1
        case measure => have:=HK1.out;omega
        case rel => exact ⟨(wrap64 (x6_1 + 1)),rs_,H',⟨by have:=HK1.out;omega⟩,by repeat (first|exact Drawn0.refl _|apply Drawn0.step)⟩
       ·rw [if_neg c8] at H
        have c8b0 : ((bt a0 x6_1) == 98) = false:=beq_eq_false_iff_ne.mpr c8
        have c8b1 : ((bt a0 x6_1) != 98) = true:=bne_iff_ne.mpr c8
        obtain rfl:=Option.some.inj H
        have p5 : 0 ≤ (x6_1 : Int):=of_decide_eq_true (by first|(with_reducible assumption)|assumption)
        have q5 : x6_1 < (a0.size : Int):=of_decide_eq_true (by first|(with_reducible assumption)|assumption)
        have hx5:=bt_at a0 x6_1
        replace p5:=eq_true p5
        replace q5:=eq_true q5
        have p7 : 0 ≤ (x6_1 : Int):=of_decide_eq_true (by first|(with_reducible assumption)|assumption)
        have q7 : x6_1 < (a0.size : Int):=of_decide_eq_true (by first|(with_reducible assumption)|assumption)
        have hx7:=bt_at a0 x6_1
        replace p7:=eq_true p7
        replace q7:=eq_true q7
        go_wp2
        go_ret
        exact ⟨by first|rfl|(simp;done)|(simp [*];done),by repeat (first|exact Drawn0.refl _|apply Drawn0.step)⟩
     ·rw [if_neg c4] at H
      exact absurd H (by simp)
    ·rw [if_neg c3] at H
     exact absurd H (by simp)
   ·rw [if_neg c2] at H
    have c2b0 : decide (x6_1 < (a0.size : Int)) = false:=decide_eq_false c2
    clear c2
    obtain rfl:=Option.some.inj H
    go_wp2
    go_ret
    exact ⟨by first|rfl|(simp;done)|(simp [*];done),by repeat (first|exact Drawn0.refl _|apply Drawn0.step)⟩
def spec_l4Asked.f (k : Nat) (a0_0 : Int) (l0_1 : List Int) (l0_2 : List Int) (l0_3 : List (S92)) (a1 : ByteArray) : Option (Bool):=(spec_AutomatonValid.f k a0_0 l0_1 l0_2 l0_3).bind fun t292 => (if t292 = true then ((spec_WordValid.f k a1).bind fun t293 => (some t293)) else (some false))
theorem spec_l4Asked.mono : ∀ a0 a1 a2 a3 a4 k,LeO (spec_l4Asked.f k a0 a1 a2 a3 a4) (spec_l4Asked.f (k + 1) a0 a1 a2 a3 a4):=by
 intro a0 a1 a2 a3 a4 k
 unfold spec_l4Asked.f
 repeat' first
   | (with_reducible exact spec_AutomatonValid.mono _ _ _ _ _)
   | (with_reducible exact spec_WordValid.mono _ _)
   | (with_reducible exact LeO.refl _)
   | (with_reducible exact LeO.none _)
   | (with_reducible refine LeO.ite ?_ ?_)
   | (with_reducible refine LeO.bind ?_ (fun _ => ?_))
   | exact spec_AutomatonValid.mono _ _ _ _ _
   | exact spec_WordValid.mono _ _
   | exact LeO.none _
   | refine LeO.ite ?_ ?_
   | refine LeO.bind ?_ (fun _ => ?_)
set_option maxHeartbeats 8000000 in
set_option maxRecDepth 100000 in
theorem spec_l4Asked.calls (k : Nat) (a0_0 : Int) (A0_1 : Option Addr) (c0_1 : Nat) (l0_1 : List Int) (A0_2 : Option Addr) (c0_2 : Nat) (l0_2 : List Int) (A0_3 : Option Addr) (c0_3 : Nat) (l0_3 : List (S92)) (a1 : ByteArray) (r : Bool) (w : World) (hr0_1 : Kd.C (Kd.int .i64) w A0_1 l0_1.length l0_1) (hc0_1 : l0_1.length ≤ c0_1) (hr0_2 : Kd.C (Kd.int .i64) w A0_2 l0_2.length l0_2) (hc0_2 : l0_2.length ≤ c0_2) (hr0_3 : Kd.C k92 w A0_3 l0_3.length l0_3) (hc0_3 : l0_3.length ≤ c0_3) (h : spec_l4Asked.f k a0_0 l0_1 l0_2 l0_3 a1 = some r) :
  Calls Try.prog 76 #[.agg #[.int .i64 a0_0,.slice A0_1 l0_1.length c0_1,.slice A0_2 l0_2.length c0_2,.slice A0_3 l0_3.length c0_3],.string a1] w fun e w' => e = .returned (.bool r) ∧ Below w.heap.size w w':=by
 have hu33:=Try.underlying33
 have HR0_1:=Aside0.mk hr0_1
 have HC0_1:=Aside0.mk hc0_1
 clear hr0_1 hc0_1
 have HR0_2:=Aside0.mk hr0_2
 have HC0_2:=Aside0.mk hc0_2
 clear hr0_2 hc0_2
 have HR0_3:=Aside0.mk hr0_3
 have HC0_3:=Aside0.mk hc0_3
 clear hr0_3 hc0_3
 have HB:=Aside0.mk (Below.refl w.heap.size w)
 have H : ((spec_AutomatonValid.f k a0_0 l0_1 l0_2 l0_3).bind fun t292 => (if t292 = true then ((spec_WordValid.f k a1).bind fun t293 => (some t293)) else (some false))) = some r:=h
 clear h
 replace H:=Option.bind_eq_some_iff.mp H
 obtain ⟨t292,A30,H⟩:=H
 replace H : (if t292 = true then ((spec_WordValid.f k a1).bind fun t293 => (some t293)) else (some false)) = some r:=H
 have A3:=Aside0.mk A30
 clear A30
 by_cases c4 : t292 = true
 ·subst c4
  have H1 : ((spec_WordValid.f k a1).bind fun t293 => (some t293)) = some r:=by rw [if_pos rfl] at H;exact H
  clear H
  have H:=H1
  clear H1
  replace H:=Option.bind_eq_some_iff.mp H
  obtain ⟨t293,A50,H⟩:=H
  replace H : (some t293) = some r:=H
  have A5:=Aside0.mk A50
  clear A50
  obtain rfl:=Option.some.inj H
  go_enter Try.func76,Try.ntmps76
  go_wp2_with (first|((with_reducible refine bev_ (N:=2) rfl rfl (cs:=#[.int .i64 a0_0,.slice A0_1 l0_1.length c0_1,.slice A0_2 l0_2.length c0_2,.slice A0_3 l0_3.length c0_3]) (t:=33) ?hr ?_);(case hr => first|(go_simp;done)|(go_simp;rfl));intro gb291 hg w6 hbox hb;have BK291:=Aside0.mk (hbox);have GW291:=Aside0.mk (szg_ hg (below_size (be0_ HB.out)));have GE291:=Aside0.mk (szg_ hg (below_size (be0_ HB.out)));replace HB:=Aside0.mk (below_step (be0_ HB.out) hb);clear hb hbox hg;obtain ⟨hcz7_0,hcz7_1,hcz7_2,hcz7_3,hfz7_0,hfz7_1,hfz7_2,hfz7_3⟩:=cf4_ BK291.out)|((with_reducible refine gate_callee (f:=67) rfl ?_);refine goesL_ (some 6) rfl rfl Try.func67 (by kernel_rfl) rfl #[.agg #[.int .i64 a0_0,.slice A0_1 l0_1.length c0_1,.slice A0_2 l0_2.length c0_2,.slice A0_3 l0_3.length c0_3]] rfl lp_ ?_;(with_reducible refine (spec_AutomatonValid.calls k a0_0 _ _ l0_1 _ _ l0_2 _ _ l0_3 true _ ?side1 ?side2 ?side3 ?side4 ?side5 ?side6 A3.out).mono ?_);(case side1 => exact cr_ (Kd.C_below HR0_1.out HB.out));(case side2 => exact HC0_1.out);(case side3 => exact cr_ (Kd.C_below HR0_2.out HB.out));(case side4 => exact HC0_2.out);(case side5 => exact cr_ (Kd.C_below HR0_3.out HB.out));(case side6 => exact HC0_3.out);rintro e w8 ⟨rfl,hb⟩;refine ⟨_,rfl,?_⟩;replace BK291:=Aside0.mk (kb_ BK291.out hb);replace HB:=Aside0.mk (below_step (be1_ HB.out GE291.out) hb);(try clear hb);(try clear hb2);(try clear hk);(try clear hi))|(go_at_call 130;(with_reducible refine (spec_WordValid.calls k a1 t293 _ A5.out).mono ?_);rintro e w' ⟨rfl,⟨nd,rfl⟩⟩))
  go_ret
  exact ⟨er_,be1_ HB.out GE291.out⟩
 ·replace c4:=Bool.eq_false_iff.mpr c4
  subst c4
  have H1 : (some false) = some r:=by rw [if_neg (show ¬ (false = true) by decide)] at H;exact H
  clear H
  have H:=H1
  clear H1
  obtain rfl:=Option.some.inj H
  go_enter Try.func76,Try.ntmps76
  go_wp2_with (first|((with_reducible refine bev_ (N:=2) rfl rfl (cs:=#[.int .i64 a0_0,.slice A0_1 l0_1.length c0_1,.slice A0_2 l0_2.length c0_2,.slice A0_3 l0_3.length c0_3]) (t:=33) ?hr ?_);(case hr => first|(go_simp;done)|(go_simp;rfl));intro gb291 hg w9 hbox hb;have BK291:=Aside0.mk (hbox);have GW291:=Aside0.mk (szg_ hg (below_size (be0_ HB.out)));have GE291:=Aside0.mk (szg_ hg (below_size (be0_ HB.out)));replace HB:=Aside0.mk (below_step (be0_ HB.out) hb);clear hb hbox hg;obtain ⟨hcz10_0,hcz10_1,hcz10_2,hcz10_3,hfz10_0,hfz10_1,hfz10_2,hfz10_3⟩:=cf4_ BK291.out)|((with_reducible refine gate_callee (f:=67) rfl ?_);refine goesL_ (some 6) rfl rfl Try.func67 (by kernel_rfl) rfl #[.agg #[.int .i64 a0_0,.slice A0_1 l0_1.length c0_1,.slice A0_2 l0_2.length c0_2,.slice A0_3 l0_3.length c0_3]] rfl lp_ ?_;(with_reducible refine (spec_AutomatonValid.calls k a0_0 _ _ l0_1 _ _ l0_2 _ _ l0_3 false _ ?side1 ?side2 ?side3 ?side4 ?side5 ?side6 A3.out).mono ?_);(case side1 => exact cr_ (Kd.C_below HR0_1.out HB.out));(case side2 => exact HC0_1.out);(case side3 => exact cr_ (Kd.C_below HR0_2.out HB.out));(case side4 => exact HC0_2.out);(case side5 => exact cr_ (Kd.C_below HR0_3.out HB.out));(case side6 => exact HC0_3.out);rintro e w11 ⟨rfl,hb⟩;refine ⟨_,rfl,?_⟩;replace BK291:=Aside0.mk (kb_ BK291.out hb);replace HB:=Aside0.mk (below_step (be1_ HB.out GE291.out) hb);(try clear hb);(try clear hb2);(try clear hk);(try clear hi)))
  go_ret
  exact ⟨er_,be1_ HB.out GE291.out⟩
def spec_l1Add.f (a0 : Int) (a1 : Int) : Option (Int):=some (mn (wrap64 (a0 + a1)) 1000000)
set_option maxHeartbeats 8000000 in
set_option maxRecDepth 100000 in
theorem spec_l1Add.calls (a0 : Int) (a1 : Int) (r : Int) (w : World) (h : spec_l1Add.f a0 a1 = some r) :
  Calls Try.prog 166 #[.int .i64 a0,.int .i64 a1] w fun e w' => e = .returned (.int .i64 r) ∧ Below w.heap.size w w':=by
 have HB:=Aside0.mk (Below.refl w.heap.size w)
 have H : (some (mn (wrap64 (a0 + a1)) 1000000)) = some r:=h
 clear h
 obtain ⟨ji3,hji3⟩ : ∃ j_ : Int,(mn (wrap64 (a0 + a1)) 1000000) = j_:=⟨_,rfl⟩
 replace H : (some ji3) = some r:=by first|(rw [hji3] at H;exact H)|(simp only [hji3] at H ⊢;exact H)
 (try (have hji3h : ji3 ≤ 1000000:=by (rw [← hji3];unfold mn;(repeat' split) <;> omega)))
 (try (have hji3g : ji3 ≤ 64:=by omega))
 have hji3_ : (if 1000000 < (wrap64 (a0 + a1)) then 1000000 else (wrap64 (a0 + a1))) = ji3:=hji3
 obtain rfl:=Option.some.inj H
 go_enter Try.func166,Try.ntmps166
 go_wp2
 go_ret
 exact ⟨by first|rfl|(simp [errW_none,errW_some] <;> rfl)|(simp only [← hji3];first|rfl|(simp [errW_none,errW_some] <;> rfl))|(simp [*,errW_none,errW_some] <;> rfl),be0_ HB.out⟩
mutual
def spec_l2Mul.l0 : Nat → Int → Int → Int → List Int → Int → List Int → Int → List Int → Option (Int × List Int)
 | 0,_,_,_,_,_,_,_,_ => none
 | k + 1,x18,x19,x312000,x312001,x313000,x313001,x315000,x315001 => if x19 < x18 then (if x312000 = 0 then (none) else (spec_l2Mul.l1 k (wrap64 (Int.tdiv x19 x312000)) (Int.tmod x19 x312000) 1000000 x18 x19 x312000 0 x312000 x312001 x313000 x313001 x315000 x315001)) else (some (x315000,x315001))
def spec_l2Mul.l1 : Nat → Int → Int → Int → Int → Int → Int → Int → Int → List Int → Int → List Int → Int → List Int → Option (Int × List Int)
 | 0,_,_,_,_,_,_,_,_,_,_,_,_,_ => none
 | k + 1,x7,x8,x9,x18,x19,x31,x32,x312000,x312001,x313000,x313001,x315000,x315001 => if x32 < x31 then (if 0 ≤ (wrap64 ((wrap64 (x7 * x312000)) + x32)) then (if (wrap64 ((wrap64 (x7 * x312000)) + x32)) < (x312001.length : Int) then (if 0 ≤ (wrap64 ((wrap64 (x32 * x312000)) + x8)) then (if (wrap64 ((wrap64 (x32 * x312000)) + x8)) < (x313001.length : Int) then ((spec_l1Add.f (rd x312001 (wrap64 ((wrap64 (x7 * x312000)) + x32))) (rd x313001 (wrap64 ((wrap64 (x32 * x312000)) + x8)))).bind fun t317 => (spec_l2Mul.l1 k x7 x8 (mn x9 t317) x18 x19 x31 (wrap64 (x32 + 1)) x312000 x312001 x313000 x313001 x315000 x315001)) else (none)) else (none)) else (none)) else (none)) else (if x315001.length < 17592186044416 then (spec_l2Mul.l0 k x18 (wrap64 (x19 + 1)) x312000 x312001 x313000 x313001 x315000 (x315001 ++ [x9])) else (none))
end
def spec_l2Mul.f (k : Nat) (a0_0 : Int) (l0_1 : List Int) (a1_0 : Int) (l1_1 : List Int) : Option (Int × List Int):=spec_l2Mul.l0 k (wrap64 (a0_0 * a0_0)) 0 a0_0 l0_1 a1_0 l1_1 a0_0 ([] : List Int)
theorem spec_l2Mul.mono_l : ∀ k,(∀ y0 y1 y2 y3 y4 y5 y6 y7,LeO (spec_l2Mul.l0 k y0 y1 y2 y3 y4 y5 y6 y7) (spec_l2Mul.l0 (k + 1) y0 y1 y2 y3 y4 y5 y6 y7)) ∧ (∀ y0 y1 y2 y3 y4 y5 y6 y7 y8 y9 y10 y11 y12,LeO (spec_l2Mul.l1 k y0 y1 y2 y3 y4 y5 y6 y7 y8 y9 y10 y11 y12) (spec_l2Mul.l1 (k + 1) y0 y1 y2 y3 y4 y5 y6 y7 y8 y9 y10 y11 y12))
 | 0 => ⟨fun _ _ _ _ _ _ _ _ r h => by simp [spec_l2Mul.l0] at h,fun _ _ _ _ _ _ _ _ _ _ _ _ _ r h => by simp [spec_l2Mul.l1] at h⟩
 | k + 1 => by
  obtain ⟨ih0,ih1⟩:=spec_l2Mul.mono_l k
  refine ⟨?_,?_⟩
  ·intro y0 y1 y2 y3 y4 y5 y6 y7
   unfold spec_l2Mul.l0
   repeat' first
   | (with_reducible exact ih0 _ _ _ _ _ _ _ _)
   | (with_reducible exact ih1 _ _ _ _ _ _ _ _ _ _ _ _ _)
   | (with_reducible exact LeO.refl _)
   | (with_reducible exact LeO.none _)
   | (with_reducible refine LeO.ite ?_ ?_)
   | (with_reducible refine LeO.bind ?_ (fun _ => ?_))
   | exact ih0 _ _ _ _ _ _ _ _
   | exact ih1 _ _ _ _ _ _ _ _ _ _ _ _ _
   | exact LeO.none _
   | refine LeO.ite ?_ ?_
   | refine LeO.bind ?_ (fun _ => ?_)
  ·intro y0 y1 y2 y3 y4 y5 y6 y7 y8 y9 y10 y11 y12
   unfold spec_l2Mul.l1
   repeat' first
   | (with_reducible exact ih0 _ _ _ _ _ _ _ _)
   | (with_reducible exact ih1 _ _ _ _ _ _ _ _ _ _ _ _ _)
   | (with_reducible exact LeO.refl _)
   | (with_reducible exact LeO.none _)
   | (with_reducible refine LeO.ite ?_ ?_)
   | (with_reducible refine LeO.bind ?_ (fun _ => ?_))
   | exact ih0 _ _ _ _ _ _ _ _
   | exact ih1 _ _ _ _ _ _ _ _ _ _ _ _ _
   | exact LeO.none _
   | refine LeO.ite ?_ ?_
   | refine LeO.bind ?_ (fun _ => ?_)
theorem spec_l2Mul.mono : ∀ a0 a1 a2 a3 k,LeO (spec_l2Mul.f k a0 a1 a2 a3) (spec_l2Mul.f (k + 1) a0 a1 a2 a3):=by
 intro a0 a1 a2 a3 k
 obtain ⟨ih0,ih1⟩:=spec_l2Mul.mono_l k
 unfold spec_l2Mul.f
 repeat' first
   | (with_reducible exact ih0 _ _ _ _ _ _ _ _)
   | (with_reducible exact ih1 _ _ _ _ _ _ _ _ _ _ _ _ _)
   | (with_reducible exact LeO.refl _)
   | (with_reducible exact LeO.none _)
   | (with_reducible refine LeO.ite ?_ ?_)
   | (with_reducible refine LeO.bind ?_ (fun _ => ?_))
   | exact ih0 _ _ _ _ _ _ _ _
   | exact ih1 _ _ _ _ _ _ _ _ _ _ _ _ _
   | exact LeO.none _
   | refine LeO.ite ?_ ?_
   | refine LeO.bind ?_ (fun _ => ?_)
def spec_l2Mul.T5 : Bool × List (List Nat × List Nat):=(true,[([],[]),([],[]),([1],[1]),([0,2],[0,2]),([],[]),([],[]),([5],[5]),([4,6],[4,6]),([3,0,1,2,3],[3]),([7,8,0,1,2,3,4,5,6,7,8],[7])])
def spec_l2Mul.B5 : List Nat:=[0,0,2,7,0,0,32,112,15,511]
theorem spec_l2Mul.tab5 : rtab .any (opsOf Try.f133 5) = spec_l2Mul.T5:=by kernel_rfl
theorem spec_l2Mul.bits5 : waitsOk spec_l2Mul.T5.2 spec_l2Mul.B5 = true:=by kernel_rfl
def spec_l2Mul.T10 : Bool × List (List Nat × List Nat):=(true,[([],[]),([],[]),([1],[1]),([],[]),([],[]),([4],[4]),([3,5],[3,5]),([],[]),([6,7],[6,7]),([2,8],[2,8]),([9],[9]),([],[]),([11],[11]),([],[]),([],[]),([14],[14]),([13,15],[13,15]),([],[]),([16,17],[16,17]),([12,18],[12,18]),([19],[19]),([10,20],[10,20]),([0,21],[0,21]),([22,21,0,1,2,3,4,5,6,7,8,9,10,11,12,13,14,15,16,17,18,19,20,21,22],[0,22])])
def spec_l2Mul.B10 : List Nat:=[0,0,2,0,0,16,56,0,248,510,1022,0,2048,0,0,16384,57344,0,253952,522240,1046528,2097150,4194303,8388607]
theorem spec_l2Mul.tab10 : rtab .any (opsOf Try.f133 10) = spec_l2Mul.T10:=by kernel_rfl
theorem spec_l2Mul.bits10 : waitsOk spec_l2Mul.T10.2 spec_l2Mul.B10 = true:=by kernel_rfl
set_option maxHeartbeats 8000000 in
set_option maxRecDepth 100000 in
theorem spec_l2Mul.calls (k : Nat) (a0_0 : Int) (A0_1 : Option Addr) (c0_1 : Nat) (l0_1 : List Int) (a1_0 : Int) (A1_1 : Option Addr) (c1_1 : Nat) (l1_1 : List Int) (r1 : Int) (r2 : List Int) (w : World) (hr0_1 : Kd.C (Kd.int .i64) w A0_1 l0_1.length l0_1) (hc0_1 : l0_1.length ≤ c0_1) (hr1_1 : Kd.C (Kd.int .i64) w A1_1 l1_1.length l1_1) (hc1_1 : l1_1.length ≤ c1_1) (h : spec_l2Mul.f k a0_0 l0_1 a1_0 l1_1 = some (r1,r2)) :
  Calls Try.prog 133 #[.agg #[.int .i64 a0_0,.slice A0_1 l0_1.length c0_1],.agg #[.int .i64 a1_0,.slice A1_1 l1_1.length c1_1]] w fun e w' => ∃ v1_ : Value,e = .returned (.agg #[.int .i64 r1,v1_]) ∧ Kd.R (Kd.int .i64) 3 w' w.heap.size (fun _ => True) v1_ r2 ∧ Below w.heap.size w w':=by
 have hu35:=Try.underlying35
 have HR0_1:=Aside0.mk hr0_1
 have HC0_1:=Aside0.mk hc0_1
 clear hr0_1 hc0_1
 have HR1_1:=Aside0.mk hr1_1
 have HC1_1:=Aside0.mk hc1_1
 clear hr1_1 hc1_1
 have HB:=Aside0.mk (Below.refl w.heap.size w)
 have H : (spec_l2Mul.l0 k (wrap64 (a0_0 * a0_0)) 0 a0_0 l0_1 a1_0 l1_1 a0_0 ([] : List Int)) = some (r1,r2):=h
 clear h
 have H':=Aside0.mk H
 clear H
 go_enter Try.func133,Try.ntmps133
 go_wp2_with (first|((with_reducible refine bev_ (N:=2) rfl rfl (cs:=#[.int .i64 a0_0,.slice A0_1 l0_1.length c0_1]) (t:=35) ?hr ?_);(case hr => first|(go_simp;done)|(go_simp;rfl));intro gb311 hg w3 hbox hb;have BK311:=Aside0.mk (hbox);have GW311:=Aside0.mk (szg_ hg (below_size (be0_ HB.out)));have GE311:=Aside0.mk (szg_ hg (below_size (be0_ HB.out)));replace HB:=Aside0.mk (below_step (be0_ HB.out) hb);clear hb hbox hg)|((with_reducible refine bev_ (N:=3) rfl rfl (cs:=#[.int .i64 a1_0,.slice A1_1 l1_1.length c1_1]) (t:=35) ?hr ?_);(case hr => first|(go_simp;done)|(go_simp;rfl));intro gb312 hg w4 hbox hb;have BK312:=Aside0.mk (hbox);have GW312:=Aside0.mk (szg_ hg (below_size (be1_ HB.out GE311.out)));have GE312:=Aside0.mk (szg_ hg (below_size (be1_ HB.out GE311.out)));replace HB:=Aside0.mk (below_step (be1_ HB.out GE311.out) hb);have NB311_312:=Aside0.mk (nl_ hg BK311.out);have NB312_311:=Aside0.mk (ng_ hg BK311.out);replace BK311:=Aside0.mk (kb_ BK311.out hb);clear hb hbox hg)|((with_reducible refine bev_ (N:=4) rfl rfl (cs:=#[.int .i64 0,.slice none 0 0]) (t:=35) ?hr ?_);(case hr => first|(go_simp;done)|(go_simp;rfl));intro gb313 hg w5 hbox hb;have BK313:=Aside0.mk (hbox);have GW313:=Aside0.mk (szg_ hg (below_size (be2_ HB.out GE311.out GE312.out)));have GE313:=Aside0.mk (szg_ hg (below_size (be2_ HB.out GE311.out GE312.out)));replace HB:=Aside0.mk (below_step (be2_ HB.out GE311.out GE312.out) hb);have NB311_313:=Aside0.mk (nl_ hg BK311.out);have NB313_311:=Aside0.mk (ng_ hg BK311.out);replace BK311:=Aside0.mk (kb_ BK311.out hb);have NB312_313:=Aside0.mk (nl_ hg BK312.out);have NB313_312:=Aside0.mk (ng_ hg BK312.out);replace BK312:=Aside0.mk (kb_ BK312.out hb);clear hb hbox hg;have hnb6:=NB311_312.out;have hnc6:=NB312_311.out;have hnb7:=NB311_313.out;have hnc7:=NB313_311.out;obtain ⟨hcz8_0,hcz8_1,hfz8_0,hfz8_1⟩:=cf2_ BK311.out)|((with_reducible refine bev_ (N:=5) rfl rfl (cs:=#[.int .i64 0,.slice none 0 0]) (t:=35) ?hr ?_);(case hr => first|(go_simp;done)|(go_simp;rfl));intro gb314 hg w9 hbox hb;have BK314:=Aside0.mk (hbox);have GW314:=Aside0.mk (szg_ hg (below_size (be3_ HB.out GE311.out GE312.out GE313.out)));have GE314:=Aside0.mk (szg_ hg (below_size (be3_ HB.out GE311.out GE312.out GE313.out)));replace HB:=Aside0.mk (below_step (be3_ HB.out GE311.out GE312.out GE313.out) hb);have NB311_314:=Aside0.mk (nl_ hg BK311.out);have NB314_311:=Aside0.mk (ng_ hg BK311.out);replace BK311:=Aside0.mk (kb_ BK311.out hb);have NB312_314:=Aside0.mk (nl_ hg BK312.out);have NB314_312:=Aside0.mk (ng_ hg BK312.out);replace BK312:=Aside0.mk (kb_ BK312.out hb);have NB313_314:=Aside0.mk (nl_ hg BK313.out);have NB314_313:=Aside0.mk (ng_ hg BK313.out);replace BK313:=Aside0.mk (kb_ BK313.out hb);clear hb hbox hg;have hnb10:=NB314_311.out;have hnc10:=NB311_314.out;have hnb11:=NB314_312.out;have hnc11:=NB312_314.out;have hnb12:=NB314_313.out;have hnc12:=NB313_314.out;obtain ⟨hcz13_0,hcz13_1,hfz13_0,hfz13_1⟩:=cf2_ BK314.out;obtain ⟨hcz14_0,hcz14_1,hfz14_0,hfz14_1⟩:=cf2_ BK311.out))
 go_loopg [19] k (fun kq v19 w' => ∃ (x19_1 : Int) (x315001_1 : List Int) (u315001 : Value),v19 = .int .i64 x19_1 ∧ Aside0 (spec_l2Mul.l0 kq (wrap64 (a0_0 * a0_0)) x19_1 a0_0 l0_1 a1_0 l1_1 a0_0 x315001_1 = some (r1,r2)) ∧ Aside0 (kq ≤ k) ∧ Aside0 (Kd.R (Kd.int .i64) 3 w' w.heap.size (fun _ => True) u315001 x315001_1) ∧ Aside0 (w'.heap[gb311]? = some (.cells #[.int .i64 a0_0,(.slice A0_1 l0_1.length c0_1)] 35 (0,0))) ∧ Aside0 (w'.heap[gb312]? = some (.cells #[.int .i64 a1_0,(.slice A1_1 l1_1.length c1_1)] 35 (0,0))) ∧ Aside0 (w'.heap[gb313]? = some (.cells #[.int .i64 0,(.slice none 0 0)] 35 (0,0))) ∧ Aside0 (w'.heap[gb314]? = some (.cells #[.int .i64 a0_0,u315001] 35 (0,0))) ∧ Aside0 (Below w.heap.size w w'))
 case atStart => exact ⟨(0),(([] : List Int)),(.slice none 0 0),rs_,H',⟨Nat.le_refl _⟩,⟨by first|exact Kd.R_nil _ _ _ _ _|exact Kd.N_nil _ _ _ _ _|exact Kd.V_nil _ _ _ _ _|exact Kd.Q_nil _ _ _ _ _|exact Kd.S_nil _ _ _ _ _⟩,⟨by refine pe_ ?_;refine blk_far ?_ NB311_314.out _;refine pe_ ?_;refine blk_far ?_ NB311_314.out _;refine pe_ ?_;exact BK311.out⟩,⟨by refine pe_ ?_;refine blk_far ?_ NB312_314.out _;refine pe_ ?_;refine blk_far ?_ NB312_314.out _;refine pe_ ?_;exact BK312.out⟩,⟨by refine pe_ ?_;refine blk_far ?_ NB313_314.out _;refine pe_ ?_;refine blk_far ?_ NB313_314.out _;refine pe_ ?_;exact BK313.out⟩,⟨by refine pe_ ?_;refine blk_put (cs:=#[.int .i64 a0_0,.slice none 0 0]) ?_ 1 _ rfl;refine pe_ ?_;refine blk_put (cs:=#[.int .i64 0,.slice none 0 0]) ?_ 0 _ rfl;refine pe_ ?_;exact BK314.out⟩,⟨be4_ HB.out GE311.out GE312.out GE313.out GE314.out⟩⟩
 case round =>
  clear H'
  try clear c1
  try clear p2
  try clear c6
  try clear p6
  try clear c7
  try clear c10
  try clear c11
  try clear c12
  try clear c13
  try clear hcz13_0
  try clear hcz13_1
  try clear hcz14_0
  try clear hcz14_1
  try clear hcz8_0
  try clear hcz8_1
  try clear hfz13_0
  try clear hfz13_1
  try clear hfz14_0
  try clear hfz14_1
  try clear hfz8_0
  try clear hfz8_1
  obtain ⟨x19_1,x315001_1,u315001,rfl,HA,HK1,HO_315001,BK311,BK312,BK313,BK314,HB⟩:=hrel
  cases gk with
  | zero => exact absurd HA.out (by simp [spec_l2Mul.l0])
  | succ k1 =>
   have H:=HA.out
   clear HA
   simp only [spec_l2Mul.l0] at H
   by_cases c15 : x19_1 < (wrap64 (a0_0 * a0_0))
   ·rw [if_pos c15] at H
    have c15b0 : decide (x19_1 < (wrap64 (a0_0 * a0_0))) = true:=decide_eq_true c15
    clear c15
    by_cases c16 : a0_0 = 0
    ·rw [if_pos c16] at H
     exact absurd H (by simp)
    ·rw [if_neg c16] at H
     have c16b0 : (a0_0 == 0) = false:=beq_eq_false_iff_ne.mpr c16
     have c16b1 : (a0_0 != 0) = true:=bne_iff_ne.mpr c16
     have H':=Aside0.mk H
     clear H
     try go_wp2
     replace HO_315001:=Aside0.mk (Kd.R_drew HO_315001.out)
     replace BK311:=Aside0.mk (blk_drew BK311.out)
     replace BK312:=Aside0.mk (blk_drew BK312.out)
     replace BK313:=Aside0.mk (blk_drew BK313.out)
     replace BK314:=Aside0.mk (blk_drew BK314.out)
     replace HB:=Aside0.mk (below_drew1 HB.out)
     refine start_ (n:=10) (S:=fun w' => w'.cell? ⟨gb311,0,none⟩ = some (.int .i64 a0_0) ∧ w'.cell? ⟨gb311,1,none⟩ = some (.slice A0_1 l0_1.length c0_1)) (ds:=[]) #[false,false,false,false,false,false,false,false,false,false] (by kernel_rfl) rfl rfl ⟨(blk_cell BK311.out 0).trans rfl,(blk_cell BK311.out 1).trans rfl⟩ (fun hHeld => ?_);refine with_tabW spec_l2Mul.tab5 spec_l2Mul.bits5 (fun HT_ HW_ => ?_)
     generalize wr.drew = w17 at HO_315001 BK311 BK312 BK313 BK314 HB hHeld ⊢
     refine stW_ [.p 0 22,.p 1 23,.p 4 26,.p 5 27,.t 2 24,.p 3 25,.p 8 7,.t 6 28,.p 7 29,.p 9 8] 10 1023 10 HT_.out HW_.out hHeld (a':=?_) ?_ rfl (by kernel_rfl) (fun _ _ _ _ h => h) ?_
     rotate_left
     ·repeat (first|exact Steps.nil|(refine Steps.p (oi:=?_) (v:=?_) (a1:=?_) ?_ ?_ ?_ ?_ ?_;rotate_left 2;rfl;rfl;(refine Or.inl ⟨by rfl,?_⟩;intro w';go_simp;with_reducible rfl);rotate_left;(simp only [Act.put,List.setIfInBounds_toArray,List.set_cons_zero,List.set_cons_succ,i64_w,i32_w];rfl))|(refine Steps.t (oi:=?_) (v:=?_) (a1:=?_) ?_ ?_ ?_ ?_ ?_;rotate_left 2;rfl;rfl;(refine Or.inl ⟨by rfl,?_⟩;rintro w' ⟨s0,s1⟩;go_simp;with_reducible rfl);rotate_left;(simp only [Act.put,List.setIfInBounds_toArray,List.set_cons_zero,List.set_cons_succ,i64_w,i32_w];rfl)))
     refine done_ (done_of HT_.out (by kernel_rfl)) ?_
     have hnb18:=NB311_312.out
     have hnc18:=NB312_311.out
     have hnb19:=NB311_313.out
     have hnc19:=NB313_311.out
     have hnb20:=NB311_314.out
     have hnc20:=NB314_311.out
     obtain ⟨hcz21_0,hcz21_1,hfz21_0,hfz21_1⟩:=cf2_ BK311.out
     try go_wp2
     go_loopg [9,32] k1 (fun kq v9 v32 w' => ∃ (x9_2 : Int) (x32_2 : Int),v9 = .int .i64 x9_2 ∧ v32 = .int .i64 x32_2 ∧ Aside0 (spec_l2Mul.l1 kq (wrap64 (Int.tdiv x19_1 a0_0)) (Int.tmod x19_1 a0_0) x9_2 (wrap64 (a0_0 * a0_0)) x19_1 a0_0 x32_2 a0_0 l0_1 a1_0 l1_1 a0_0 x315001_1 = some (r1,r2)) ∧ Aside0 (kq ≤ k1) ∧ Aside0 (Kd.R (Kd.int .i64) 3 w' w.heap.size (fun _ => True) u315001 x315001_1) ∧ Aside0 (w'.heap[gb311]? = some (.cells #[.int .i64 a0_0,(.slice A0_1 l0_1.length c0_1)] 35 (0,0))) ∧ Aside0 (w'.heap[gb312]? = some (.cells #[.int .i64 a1_0,(.slice A1_1 l1_1.length c1_1)] 35 (0,0))) ∧ Aside0 (w'.heap[gb313]? = some (.cells #[.int .i64 0,(.slice none 0 0)] 35 (0,0))) ∧ Aside0 (w'.heap[gb314]? = some (.cells #[.int .i64 a0_0,u315001] 35 (0,0))) ∧ Aside0 (Below w.heap.size w w'))
     case atStart => exact ⟨(1000000),(0),rs_,rs_,H',⟨Nat.le_refl _⟩,⟨pr_ HO_315001.out⟩,⟨pe_ BK311.out⟩,⟨pe_ BK312.out⟩,⟨pe_ BK313.out⟩,⟨pe_ BK314.out⟩,⟨be4_ HB.out GE311.out GE312.out GE313.out GE314.out⟩⟩
     case round =>
      clear H'
      try clear c1
      try clear c2
      try clear p2
      try clear c6
      try clear p6
      try clear c7
      try clear c10
      try clear c11
      try clear c12
      try clear c13
      try clear c15
      try clear c15b0
      try clear c16
      try clear c16b0
      try clear c16b1
      try clear c18
      try clear c19
      try clear c20
      try clear hcz13_0
      try clear hcz13_1
      try clear hcz14_0
      try clear hcz14_1
      try clear hcz21_0
      try clear hcz21_1
      try clear hcz8_0
      try clear hcz8_1
      try clear hfz13_0
      try clear hfz13_1
      try clear hfz14_0
      try clear hfz14_1
      try clear hfz21_0
      try clear hfz21_1
      try clear hfz8_0
      try clear hfz8_1
      try clear p2
      try clear p6
      obtain ⟨x9_2,x32_2,rfl,rfl,HA,HK2,HO_315001,BK311,BK312,BK313,BK314,HB⟩:=hrel
      cases gk with
      | zero => exact absurd HA.out (by simp [spec_l2Mul.l1])
      | succ k2 =>
       have H:=HA.out
       clear HA
       simp only [spec_l2Mul.l1] at H
       by_cases c22 : x32_2 < a0_0
       ·rw [if_pos c22] at H
        have c22b0 : decide (x32_2 < a0_0) = true:=decide_eq_true c22
        clear c22
        obtain ⟨ji23,hji23⟩ : ∃ j_ : Int,(wrap64 ((wrap64 ((wrap64 (Int.tdiv x19_1 a0_0)) * a0_0)) + x32_2)) = j_:=⟨_,rfl⟩
        replace H : (if 0 ≤ (ji23) then (if (ji23) < (l0_1.length : Int) then (if 0 ≤ (wrap64 ((wrap64 (x32_2 * a0_0)) + (Int.tmod x19_1 a0_0))) then (if (wrap64 ((wrap64 (x32_2 * a0_0)) + (Int.tmod x19_1 a0_0))) < (l1_1.length : Int) then ((spec_l1Add.f (rd l0_1 (ji23)) (rd l1_1 (wrap64 ((wrap64 (x32_2 * a0_0)) + (Int.tmod x19_1 a0_0))))).bind fun t317 => (spec_l2Mul.l1 k2 (wrap64 (Int.tdiv x19_1 a0_0)) (Int.tmod x19_1 a0_0) (mn x9_2 t317) (wrap64 (a0_0 * a0_0)) x19_1 a0_0 (wrap64 (x32_2 + 1)) a0_0 l0_1 a1_0 l1_1 a0_0 x315001_1)) else (none)) else (none)) else (none)) else (none)) = some (r1,r2):=by first|(rw [hji23] at H;exact H)|(simp only [hji23] at H ⊢;exact H)
        have hji23w : (IntKind.i64.wrap ((wrap64 ((wrap64 (Int.tdiv x19_1 a0_0)) * a0_0)) + x32_2)) = ji23:=(i64_w _).trans hji23
        by_cases c24 : 0 ≤ (ji23)
        ·rw [if_pos c24] at H
         have c24b0 : decide (0 ≤ (ji23)) = true:=decide_eq_true c24
         clear c24
         by_cases c25 : (ji23) < (l0_1.length : Int)
         ·rw [if_pos c25] at H
          have c25b0 : decide ((ji23) < (l0_1.length : Int)) = true:=decide_eq_true c25
          clear c25
          obtain ⟨ji26,hji26⟩ : ∃ j_ : Int,(wrap64 ((wrap64 (x32_2 * a0_0)) + (Int.tmod x19_1 a0_0))) = j_:=⟨_,rfl⟩
          replace H : (if 0 ≤ (ji26) then (if (ji26) < (l1_1.length : Int) then ((spec_l1Add.f (rd l0_1 (ji23)) (rd l1_1 (ji26))).bind fun t317 => (spec_l2Mul.l1 k2 (wrap64 (Int.tdiv x19_1 a0_0)) (Int.tmod x19_1 a0_0) (mn x9_2 t317) (wrap64 (a0_0 * a0_0)) x19_1 a0_0 (wrap64 (x32_2 + 1)) a0_0 l0_1 a1_0 l1_1 a0_0 x315001_1)) else (none)) else (none)) = some (r1,r2):=by first|(rw [hji26] at H;exact H)|(simp only [hji26] at H ⊢;exact H)
          have hji26w : (IntKind.i64.wrap ((wrap64 (x32_2 * a0_0)) + (Int.tmod x19_1 a0_0))) = ji26:=(i64_w _).trans hji26
          by_cases c27 : 0 ≤ (ji26)
          ·rw [if_pos c27] at H
           have c27b0 : decide (0 ≤ (ji26)) = true:=decide_eq_true c27
           clear c27
           by_cases c28 : (ji26) < (l1_1.length : Int)
           ·rw [if_pos c28] at H
            have c28b0 : decide ((ji26) < (l1_1.length : Int)) = true:=decide_eq_true c28
            clear c28
            replace H:=Option.bind_eq_some_iff.mp H
            obtain ⟨t317,A290,H⟩:=H
            replace H : (spec_l2Mul.l1 k2 (wrap64 (Int.tdiv x19_1 a0_0)) (Int.tmod x19_1 a0_0) (mn x9_2 t317) (wrap64 (a0_0 * a0_0)) x19_1 a0_0 (wrap64 (x32_2 + 1)) a0_0 l0_1 a1_0 l1_1 a0_0 x315001_1) = some (r1,r2):=H
            have A29:=Aside0.mk A290
            clear A290
            obtain ⟨ji30,hji30⟩ : ∃ j_ : Int,(mn x9_2 t317) = j_:=⟨_,rfl⟩
            replace H : (spec_l2Mul.l1 k2 (wrap64 (Int.tdiv x19_1 a0_0)) (Int.tmod x19_1 a0_0) ji30 (wrap64 (a0_0 * a0_0)) x19_1 a0_0 (wrap64 (x32_2 + 1)) a0_0 l0_1 a1_0 l1_1 a0_0 x315001_1) = some (r1,r2):=by first|(rw [hji30] at H;exact H)|(simp only [hji30] at H ⊢;exact H)
            (try rw [hji30] at A29)
            have hji30_ : (if t317 < x9_2 then t317 else x9_2) = ji30:=hji30
            have H':=Aside0.mk H
            clear H
            try go_wp2
            replace HO_315001:=Aside0.mk (Kd.R_drew HO_315001.out)
            replace BK311:=Aside0.mk (blk_drew BK311.out)
            replace BK312:=Aside0.mk (blk_drew BK312.out)
            replace BK313:=Aside0.mk (blk_drew BK313.out)
            replace BK314:=Aside0.mk (blk_drew BK314.out)
            replace HB:=Aside0.mk (below_drew1 HB.out)
            have p315 : 0 ≤ ((ji23) : Int):=of_decide_eq_true (by first|(with_reducible assumption)|assumption)
            have q315 : (ji23) < (l0_1.length : Int):=of_decide_eq_true (by first|(with_reducible assumption)|assumption)
            obtain ⟨ad315,e315,hx315_0⟩:=Kd.at_int HR0_1.out (ji23) p315 q315
            have hw315_0:=hx315_0
            cases e315
            replace hx315_0:=hbc_ HB.out hx315_0
            replace p315:=eq_true p315
            replace q315:=eq_true q315
            have p316 : 0 ≤ ((ji26) : Int):=of_decide_eq_true (by first|(with_reducible assumption)|assumption)
            have q316 : (ji26) < (l1_1.length : Int):=of_decide_eq_true (by first|(with_reducible assumption)|assumption)
            obtain ⟨ad316,e316,hx316_0⟩:=Kd.at_int HR1_1.out (ji26) p316 q316
            have hw316_0:=hx316_0
            cases e316
            replace hx316_0:=hbc_ HB.out hx316_0
            replace p316:=eq_true p316
            replace q316:=eq_true q316
            refine start_ (n:=24) (S:=fun w' => w'.cell? ⟨gb311,0,none⟩ = some (.int .i64 a0_0) ∧ w'.cell? ⟨gb311,1,none⟩ = some (.slice (some ad315) l0_1.length c0_1) ∧ w'.cell? ⟨gb312,0,none⟩ = some (.int .i64 a1_0) ∧ w'.cell? ⟨gb312,1,none⟩ = some (.slice (some ad316) l1_1.length c1_1) ∧ w'.cell? (ad315.add ((ji23)).toNat) = some (.int .i64 (rd l0_1 (ji23))) ∧ w'.cell? (ad316.add ((ji26)).toNat) = some (.int .i64 (rd l1_1 (ji26)))) (ds:=[]) #[false,false,false,false,false,false,false,false,false,false,false,false,false,false,false,false,false,false,false,false,false,false,false,false] (by kernel_rfl) rfl rfl ⟨(blk_cell BK311.out 0).trans rfl,(blk_cell BK311.out 1).trans rfl,(blk_cell BK312.out 0).trans rfl,(blk_cell BK312.out 1).trans rfl,((HB.out.cell (World.block_lt_of_cell? w _ hw315_0)).trans hw315_0),((HB.out.cell (World.block_lt_of_cell? w _ hw316_0)).trans hw316_0)⟩ (fun hHeld => ?_);refine with_tabW spec_l2Mul.tab10 spec_l2Mul.bits10 (fun HT_ HW_ => ?_)
            generalize wr.drew = w31 at HO_315001 BK311 BK312 BK313 BK314 HB hx315_0 hx316_0 hHeld ⊢
            refine stW_ [.p 0 35,.p 1 36,.p 3 38,.p 4 39,.p 7 42,.p 11 46,.p 13 48,.p 14 49,.p 17 52,.t 2 37,.t 5 40,.p 6 41,.p 8 43,.p 9 44,.t 10 45,.t 12 47,.t 15 50,.p 16 51,.p 18 53,.p 19 54,.t 20 55] 21 2097151 24 HT_.out HW_.out hHeld (a':=?_) ?_ rfl (by kernel_rfl) (fun _ _ _ _ h => h) ?_
            rotate_left
            ·repeat (first|exact Steps.nil|(refine Steps.p (oi:=?_) (v:=?_) (a1:=?_) ?_ ?_ ?_ ?_ ?_;rotate_left 2;rfl;rfl;(refine Or.inl ⟨by rfl,?_⟩;intro w';go_simp;with_reducible rfl);rotate_left;(simp only [Act.put,List.setIfInBounds_toArray,List.set_cons_zero,List.set_cons_succ,i64_w,i32_w];rfl))|(refine Steps.t (oi:=?_) (v:=?_) (a1:=?_) ?_ ?_ ?_ ?_ ?_;rotate_left 2;rfl;rfl;(refine Or.inl ⟨by rfl,?_⟩;rintro w' ⟨s0,s1,s2,s3,s4,s5⟩;go_simp;with_reducible rfl);rotate_left;(simp only [Act.put,List.setIfInBounds_toArray,List.set_cons_zero,List.set_cons_succ,i64_w,i32_w];rfl)))
            refine one_ (i:=21) (N:=some 56) #[true,true,true,true,true,true,true,true,true,true,true,true,true,true,true,true,true,true,true,true,true,true,false,false] rfl rfl (one_of HT_.out (by kernel_rfl)) (by decide) (fun K hK => ?_)
            refine goes_ Try.func166 (by kernel_rfl) rfl #[.int .i64 (rd l0_1 (ji23)),.int .i64 (rd l1_1 (ji26))] (by rfl) rfl rfl (by (try simp only [List.map_toArray,List.map_cons,List.map_nil]);first|done|(simp only [hji23,hji26];rfl)|rfl|(simp only [List.length_drop,List.length_take];rfl)) ?_
            with_reducible refine (spec_l1Add.calls (rd l0_1 (ji23)) (rd l1_1 (ji26)) t317 _ A29.out).mono ?_
            rintro e w32 ⟨rfl,hb⟩
            refine ⟨_,rfl,?_⟩
            replace HO_315001:=Aside0.mk (Kd.R_below (pr_ HO_315001.out) hb)
            replace BK311:=Aside0.mk (kb_ BK311.out hb)
            replace BK312:=Aside0.mk (kb_ BK312.out hb)
            replace BK313:=Aside0.mk (kb_ BK313.out hb)
            replace BK314:=Aside0.mk (kb_ BK314.out hb)
            replace HB:=Aside0.mk (below_step (be4_ HB.out GE311.out GE312.out GE313.out GE314.out) hb)
            (try clear hb)
            (try clear hb2)
            (try clear hk)
            (try clear hi)
            refine hK.out _ _ ⟨(blk_cell BK311.out 0).trans rfl,(blk_cell BK311.out 1).trans rfl,(blk_cell BK312.out 0).trans rfl,(blk_cell BK312.out 1).trans rfl,((HB.out.cell (World.block_lt_of_cell? w _ hw315_0)).trans hw315_0),((HB.out.cell (World.block_lt_of_cell? w _ hw316_0)).trans hw316_0)⟩ (fun hHeld => ?_)
            clear hK K
            refine norm_ (a':=?_) ?_ ?_
            rotate_left
            ·show Act.put _ (some 56) _ = _
             simp only [Act.put,List.setIfInBounds_toArray,List.set_cons_zero,List.set_cons_succ,i64_w,i32_w]
             rfl
            refine pure_ (i:=22) (N:=some 57) (v:=?_) (a':=?_) #[true,true,true,true,true,true,true,true,true,true,true,true,true,true,true,true,true,true,true,true,true,true,true,false] rfl rfl (any_of HT_.out (by kernel_rfl)) (fun _ _ _ h => h) (Or.inl ⟨by rfl,?_⟩) ?_ ?_
            rotate_left
            ·intro w'
             go_simp
             with_reducible rfl
            rotate_left
            ·simp only [Act.put,List.setIfInBounds_toArray,List.set_cons_zero,List.set_cons_succ,i64_w,i32_w]
             rfl
            refine pure_ (i:=23) (N:=some 9) (v:=?_) (a':=?_) #[true,true,true,true,true,true,true,true,true,true,true,true,true,true,true,true,true,true,true,true,true,true,true,true] rfl rfl (any_of HT_.out (by kernel_rfl)) (fun _ _ _ h => h) (Or.inl ⟨by rfl,?_⟩) ?_ ?_
            rotate_left
            ·intro w'
             go_simp
             with_reducible rfl
            rotate_left
            ·simp only [Act.put,List.setIfInBounds_toArray,List.set_cons_zero,List.set_cons_succ,i64_w,i32_w]
             rfl
            refine done_ (done_of HT_.out (by kernel_rfl)) ?_
            try go_wp2
            go_roundg k2
            case measure => have:=HK1.out;have:=HK2.out;omega
            case rel => exact ⟨(ji30),(wrap64 (x32_2 + 1)),(by first|rfl|(simp;done)|(simp only [← hji30] <;> (first|rfl|simp))|(simp [*];done)),rs_,H',⟨by have:=HK1.out;have:=HK2.out;omega⟩,⟨pr_ HO_315001.out⟩,⟨pe_ BK311.out⟩,⟨pe_ BK312.out⟩,⟨pe_ BK313.out⟩,⟨pe_ BK314.out⟩,⟨be4_ HB.out GE311.out GE312.out GE313.out GE314.out⟩⟩
           ·rw [if_neg c28] at H
            exact absurd H (by simp)
          ·rw [if_neg c27] at H
           exact absurd H (by simp)
         ·rw [if_neg c25] at H
          exact absurd H (by simp)
        ·rw [if_neg c24] at H
         exact absurd H (by simp)
       ·rw [if_neg c22] at H
        have c22b0 : decide (x32_2 < a0_0) = false:=decide_eq_false c22
        clear c22
        by_cases c33 : x315001_1.length < 17592186044416
        ·rw [if_pos c33] at H
         have LMc33:=Aside0.mk c33
         clear c33
         obtain ⟨y318,hy318⟩ : ∃ y_ : List Int,y_ = (x315001_1 ++ [x9_2]):=⟨_,rfl⟩
         replace H : (spec_l2Mul.l0 k2 (wrap64 (a0_0 * a0_0)) (wrap64 (x19_1 + 1)) a0_0 l0_1 a1_0 l1_1 a0_0 y318) = some (r1,r2):=by first|(rw [hy318];with_reducible exact H)|(have H2_:=(Option.bind_some _ _).symm.trans H;rw [hy318];with_reducible exact H2_)|(have H2_:=(Option.bind_some _ _).symm.trans H;with_reducible exact H2_)|with_reducible exact H|(rw [hy318];exact H)|exact H
         have Ny318:=Aside0.mk hy318
         clear hy318
         have H':=Aside0.mk H
         clear H
         have hnb34:=NB314_311.out
         have hnc34:=NB311_314.out
         have hnb35:=NB314_312.out
         have hnc35:=NB312_314.out
         have hnb36:=NB314_313.out
         have hnc36:=NB313_314.out
         obtain ⟨hcz37_0,hcz37_1,hfz37_0,hfz37_1⟩:=cf2_ BK314.out
         go_wp2_with (first|((with_reducible refine gate_builtin (b:=.append) (xs:=#[.tmp 60,.tmp 62]) rfl ?_);at_builtin;refine Kd.R_append (Kd.int .i64) (w0:=w) w.heap.size rfl (.tmp 60) (.tmp 62) 22 3 (.int .i64 0) 8 rfl Try.underlying22 info3 rfl (by decide) (by omega) u315001 x315001_1 x9_2 [.int .i64 x9_2] (fun _ => True) (fun _ => False) rfl rfl ?aP (fun _ hk => hk.elim) ?aF ?aO ?aB ?aS ?aL ?_;(case aP => exact rfl);(case aB => exact (be4_ HB.out GE311.out GE312.out GE313.out GE314.out));(case aF => exact (fun _ _ => trivial));(case aO => exact (pr_ HO_315001.out));(case aS => exact (below_size (be4_ HB.out GE311.out GE312.out GE313.out GE314.out)));(case aL => have:=LMc33.out;omega);intro v319 w38 ho hb hg hat;rw [← Ny318.out] at ho;replace BK311:=Aside0.mk (blk_grown (g:=gb311) (o:=.cells #[.int .i64 a0_0,.slice A0_1 l0_1.length c0_1] 35 (0,0)) (pe_ BK311.out) hg (Kd.R_ne HO_315001.out BK311.out (by decide)));replace BK312:=Aside0.mk (blk_grown (g:=gb312) (o:=.cells #[.int .i64 a1_0,.slice A1_1 l1_1.length c1_1] 35 (0,0)) (pe_ BK312.out) hg (Kd.R_ne HO_315001.out BK312.out (by decide)));replace BK313:=Aside0.mk (blk_grown (g:=gb313) (o:=.cells #[.int .i64 0,.slice none 0 0] 35 (0,0)) (pe_ BK313.out) hg (Kd.R_ne HO_315001.out BK313.out (by decide)));replace BK314:=Aside0.mk (blk_grown (g:=gb314) (o:=.cells #[.int .i64 a0_0,u315001] 35 (0,0)) (pe_ BK314.out) hg (Kd.R_ne HO_315001.out BK314.out (by decide)));replace HB:=Aside0.mk (hb);have HO320:=Aside0.mk (ho);clear HO_315001;clear ho hb hg hat;obtain ⟨Ao39,co39,eo39⟩:=Kd.R_slice HO320.out;subst eo39;obtain ⟨hcz40_0,hcz40_1,hfz40_0,hfz40_1⟩:=cf2_ BK314.out))
         go_roundg k2
         case measure => have:=HK1.out;have:=HK2.out;omega
         case rel => exact ⟨(wrap64 (x19_1 + 1)),(y318),(.slice Ao39 y318.length co39),rs_,H',⟨by have:=HK1.out;have:=HK2.out;omega⟩,⟨by refine pr_ ?_;exact Kd.R_mono (Kd.R_far (p:=⟨gb314,1,none⟩) (Kd.R_types HO320.out BK314.out (by decide)) (fun _ hk => hk.2) (.slice Ao39 y318.length co39)) (fun _ hk => trivial)⟩,⟨by refine pe_ ?_;refine blk_far ?_ NB311_314.out _;refine pe_ ?_;exact BK311.out⟩,⟨by refine pe_ ?_;refine blk_far ?_ NB312_314.out _;refine pe_ ?_;exact BK312.out⟩,⟨by refine pe_ ?_;refine blk_far ?_ NB313_314.out _;refine pe_ ?_;exact BK313.out⟩,⟨by refine pe_ ?_;refine blk_put (cs:=#[.int .i64 a0_0,u315001]) ?_ 1 _ rfl;refine pe_ ?_;exact BK314.out⟩,⟨be4_ HB.out GE311.out GE312.out GE313.out GE314.out⟩⟩
        ·rw [if_neg c33] at H
         exact absurd H (by simp)
   ·rw [if_neg c15] at H
    have c15b0 : decide (x19_1 < (wrap64 (a0_0 * a0_0))) = false:=decide_eq_false c15
    clear c15
    simp only [Option.some.injEq,Prod.mk.injEq] at H
    obtain ⟨rfl,rfl⟩:=H
    have hnb41:=NB314_311.out
    have hnc41:=NB311_314.out
    have hnb42:=NB314_312.out
    have hnc42:=NB312_314.out
    have hnb43:=NB314_313.out
    have hnc43:=NB313_314.out
    obtain ⟨hcz44_0,hcz44_1,hfz44_0,hfz44_1⟩:=cf2_ BK314.out
    have hnb45:=NB313_311.out
    have hnc45:=NB311_313.out
    have hnb46:=NB313_312.out
    have hnc46:=NB312_313.out
    obtain ⟨hcz47_0,hcz47_1,hfz47_0,hfz47_1⟩:=cf2_ BK313.out
    obtain ⟨Ao48,co48,eo48⟩:=Kd.R_slice HO_315001.out
    subst eo48
    go_wp2
    refine bodyPost_ret (results_cell_row rfl _ _ gb313 35 #[.int .i64 a0_0,.slice Ao48 x315001_1.length co48] (0,0) _ rfl (by refine pe_ ?_;refine blk_put (cs:=#[.int .i64 a0_0,.slice none 0 0]) ?_ 1 _ rfl;refine pe_ ?_;refine blk_put (cs:=#[.int .i64 0,.slice none 0 0]) ?_ 0 _ rfl;refine pe_ ?_;exact BK313.out) Try.underlying35 rfl (by kernel_rfl)) rfl ?_
    exact ⟨_,er_,by refine pr_ ?_;exact Kd.R_mono (Kd.R_far (p:=⟨gb313,1,none⟩) (Kd.R_far (p:=⟨gb313,0,none⟩) (Kd.R_types HO_315001.out BK313.out (by decide)) (fun _ hk => hk.2) (.int .i64 a0_0)) (fun _ hk => hk.2) (.slice Ao48 x315001_1.length co48)) (fun _ hk => trivial),be4_ HB.out GE311.out GE312.out GE313.out GE314.out⟩
def spec_l2Unit.l0 : Nat → Int → Int → Int → Int → List Int → Option (Int × List Int)
 | 0,_,_,_,_,_ => none
 | k + 1,x0,x9,x10,x296000,x296001 => if x10 < x9 then (if x0 = 0 then (none) else (if (wrap64 (Int.tdiv x10 x0)) = (Int.tmod x10 x0) then (if x296001.length < 17592186044416 then (spec_l2Unit.l0 k x0 x9 (wrap64 (x10 + 1)) x296000 (x296001 ++ [0])) else (none)) else (if x296001.length < 17592186044416 then (spec_l2Unit.l0 k x0 x9 (wrap64 (x10 + 1)) x296000 (x296001 ++ [1000000])) else (none)))) else (some (x296000,x296001))
def spec_l2Unit.f (k : Nat) (a0 : Int) : Option (Int × List Int):=spec_l2Unit.l0 k a0 (wrap64 (a0 * a0)) 0 a0 ([] : List Int)
theorem spec_l2Unit.mono_l : ∀ k,(∀ y0 y1 y2 y3 y4,LeO (spec_l2Unit.l0 k y0 y1 y2 y3 y4) (spec_l2Unit.l0 (k + 1) y0 y1 y2 y3 y4))
 | 0 => fun _ _ _ _ _ r h => by simp [spec_l2Unit.l0] at h
 | k + 1 => by
  have ih0:=spec_l2Unit.mono_l k
  ·intro y0 y1 y2 y3 y4
   unfold spec_l2Unit.l0
   repeat' first
   | (with_reducible exact ih0 _ _ _ _ _)
   | (with_reducible exact LeO.refl _)
   | (with_reducible exact LeO.none _)
   | (with_reducible refine LeO.ite ?_ ?_)
   | (with_reducible refine LeO.bind ?_ (fun _ => ?_))
   | exact ih0 _ _ _ _ _
   | exact LeO.none _
   | refine LeO.ite ?_ ?_
   | refine LeO.bind ?_ (fun _ => ?_)
theorem spec_l2Unit.mono : ∀ a0 k,LeO (spec_l2Unit.f k a0) (spec_l2Unit.f (k + 1) a0):=by
 intro a0 k
 have ih0:=spec_l2Unit.mono_l k
 unfold spec_l2Unit.f
 repeat' first
   | (with_reducible exact ih0 _ _ _ _ _)
   | (with_reducible exact LeO.refl _)
   | (with_reducible exact LeO.none _)
   | (with_reducible refine LeO.ite ?_ ?_)
   | (with_reducible refine LeO.bind ?_ (fun _ => ?_))
   | exact ih0 _ _ _ _ _
   | exact LeO.none _
   | refine LeO.ite ?_ ?_
   | refine LeO.bind ?_ (fun _ => ?_)
set_option maxHeartbeats 8000000 in
set_option maxRecDepth 100000 in
theorem spec_l2Unit.calls (k : Nat) (a0 : Int) (r1 : Int) (r2 : List Int) (w : World) (h : spec_l2Unit.f k a0 = some (r1,r2)) :
  Calls Try.prog 131 #[.int .i64 a0] w fun e w' => ∃ v1_ : Value,e = .returned (.agg #[.int .i64 r1,v1_]) ∧ Kd.R (Kd.int .i64) 3 w' w.heap.size (fun _ => True) v1_ r2 ∧ Below w.heap.size w w':=by
 have hu35:=Try.underlying35
 have HB:=Aside0.mk (Below.refl w.heap.size w)
 have H : (spec_l2Unit.l0 k a0 (wrap64 (a0 * a0)) 0 a0 ([] : List Int)) = some (r1,r2):=h
 clear h
 have H':=Aside0.mk H
 clear H
 go_enter Try.func131,Try.ntmps131
 go_wp2_with (first|((with_reducible refine bev_ (N:=2) rfl rfl (cs:=#[.int .i64 0,.slice none 0 0]) (t:=35) ?hr ?_);(case hr => first|(go_simp;done)|(go_simp;rfl));intro gb294 hg w2 hbox hb;have BK294:=Aside0.mk (hbox);have GW294:=Aside0.mk (szg_ hg (below_size (be0_ HB.out)));have GE294:=Aside0.mk (szg_ hg (below_size (be0_ HB.out)));replace HB:=Aside0.mk (below_step (be0_ HB.out) hb);clear hb hbox hg)|((with_reducible refine bev_ (N:=3) rfl rfl (cs:=#[.int .i64 0,.slice none 0 0]) (t:=35) ?hr ?_);(case hr => first|(go_simp;done)|(go_simp;rfl));intro gb295 hg w3 hbox hb;have BK295:=Aside0.mk (hbox);have GW295:=Aside0.mk (szg_ hg (below_size (be1_ HB.out GE294.out)));have GE295:=Aside0.mk (szg_ hg (below_size (be1_ HB.out GE294.out)));replace HB:=Aside0.mk (below_step (be1_ HB.out GE294.out) hb);have NB294_295:=Aside0.mk (nl_ hg BK294.out);have NB295_294:=Aside0.mk (ng_ hg BK294.out);replace BK294:=Aside0.mk (kb_ BK294.out hb);clear hb hbox hg;have hnb4:=NB295_294.out;have hnc4:=NB294_295.out;obtain ⟨hcz5_0,hcz5_1,hfz5_0,hfz5_1⟩:=cf2_ BK295.out))
 repeat (go_quiet (first|((with_reducible refine bev_ (N:=2) rfl rfl (cs:=#[.int .i64 0,.slice none 0 0]) (t:=35) ?hr ?_);(case hr => first|(go_simp;done)|(go_simp;rfl));intro gb294 hg w2 hbox hb;have BK294:=Aside0.mk (hbox);have GW294:=Aside0.mk (szg_ hg (below_size (be0_ HB.out)));have GE294:=Aside0.mk (szg_ hg (below_size (be0_ HB.out)));replace HB:=Aside0.mk (below_step (be0_ HB.out) hb);clear hb hbox hg)|((with_reducible refine bev_ (N:=3) rfl rfl (cs:=#[.int .i64 0,.slice none 0 0]) (t:=35) ?hr ?_);(case hr => first|(go_simp;done)|(go_simp;rfl));intro gb295 hg w3 hbox hb;have BK295:=Aside0.mk (hbox);have GW295:=Aside0.mk (szg_ hg (below_size (be1_ HB.out GE294.out)));have GE295:=Aside0.mk (szg_ hg (below_size (be1_ HB.out GE294.out)));replace HB:=Aside0.mk (below_step (be1_ HB.out GE294.out) hb);have NB294_295:=Aside0.mk (nl_ hg BK294.out);have NB295_294:=Aside0.mk (ng_ hg BK294.out);replace BK294:=Aside0.mk (kb_ BK294.out hb);clear hb hbox hg;have hnb4:=NB295_294.out;have hnc4:=NB294_295.out;obtain ⟨hcz5_0,hcz5_1,hfz5_0,hfz5_1⟩:=cf2_ BK295.out));try go_wp2_with (first|((with_reducible refine bev_ (N:=2) rfl rfl (cs:=#[.int .i64 0,.slice none 0 0]) (t:=35) ?hr ?_);(case hr => first|(go_simp;done)|(go_simp;rfl));intro gb294 hg w2 hbox hb;have BK294:=Aside0.mk (hbox);have GW294:=Aside0.mk (szg_ hg (below_size (be0_ HB.out)));have GE294:=Aside0.mk (szg_ hg (below_size (be0_ HB.out)));replace HB:=Aside0.mk (below_step (be0_ HB.out) hb);clear hb hbox hg)|((with_reducible refine bev_ (N:=3) rfl rfl (cs:=#[.int .i64 0,.slice none 0 0]) (t:=35) ?hr ?_);(case hr => first|(go_simp;done)|(go_simp;rfl));intro gb295 hg w3 hbox hb;have BK295:=Aside0.mk (hbox);have GW295:=Aside0.mk (szg_ hg (below_size (be1_ HB.out GE294.out)));have GE295:=Aside0.mk (szg_ hg (below_size (be1_ HB.out GE294.out)));replace HB:=Aside0.mk (below_step (be1_ HB.out GE294.out) hb);have NB294_295:=Aside0.mk (nl_ hg BK294.out);have NB295_294:=Aside0.mk (ng_ hg BK294.out);replace BK294:=Aside0.mk (kb_ BK294.out hb);clear hb hbox hg;have hnb4:=NB295_294.out;have hnc4:=NB294_295.out;obtain ⟨hcz5_0,hcz5_1,hfz5_0,hfz5_1⟩:=cf2_ BK295.out)))
 go_loopg [10] k (fun kq v10 w' => ∃ (x10_1 : Int) (x296001_1 : List Int) (u296001 : Value),v10 = .int .i64 x10_1 ∧ Aside0 (spec_l2Unit.l0 kq a0 (wrap64 (a0 * a0)) x10_1 a0 x296001_1 = some (r1,r2)) ∧ Aside0 (kq ≤ k) ∧ Aside0 (Kd.R (Kd.int .i64) 3 w' w.heap.size (fun _ => True) u296001 x296001_1) ∧ Aside0 (w'.heap[gb294]? = some (.cells #[.int .i64 0,(.slice none 0 0)] 35 (0,0))) ∧ Aside0 (w'.heap[gb295]? = some (.cells #[.int .i64 a0,u296001] 35 (0,0))) ∧ Aside0 (Below w.heap.size w w'))
 case atStart => exact ⟨(0),(([] : List Int)),(.slice none 0 0),rs_,H',⟨Nat.le_refl _⟩,⟨by first|exact Kd.R_nil _ _ _ _ _|exact Kd.N_nil _ _ _ _ _|exact Kd.V_nil _ _ _ _ _|exact Kd.Q_nil _ _ _ _ _|exact Kd.S_nil _ _ _ _ _⟩,⟨by refine pe_ ?_;refine blk_far ?_ NB294_295.out _;refine pe_ ?_;refine blk_far ?_ NB294_295.out _;refine pe_ ?_;exact BK294.out⟩,⟨by refine pe_ ?_;refine blk_put (cs:=#[.int .i64 a0,.slice none 0 0]) ?_ 1 _ rfl;refine pe_ ?_;refine blk_put (cs:=#[.int .i64 0,.slice none 0 0]) ?_ 0 _ rfl;refine pe_ ?_;exact BK295.out⟩,⟨be2_ HB.out GE294.out GE295.out⟩⟩
 case round =>
  clear H'
  try clear c1
  try clear p2
  try clear c4
  try clear hcz5_0
  try clear hcz5_1
  try clear hfz5_0
  try clear hfz5_1
  obtain ⟨x10_1,x296001_1,u296001,rfl,HA,HK1,HO_296001,BK294,BK295,HB⟩:=hrel
  cases gk with
  | zero => exact absurd HA.out (by simp [spec_l2Unit.l0])
  | succ k1 =>
   have H:=HA.out
   clear HA
   simp only [spec_l2Unit.l0] at H
   by_cases c6 : x10_1 < (wrap64 (a0 * a0))
   ·rw [if_pos c6] at H
    have c6b0 : decide (x10_1 < (wrap64 (a0 * a0))) = true:=decide_eq_true c6
    clear c6
    by_cases c7 : a0 = 0
    ·rw [if_pos c7] at H
     exact absurd H (by simp)
    ·rw [if_neg c7] at H
     have c7b0 : (a0 == 0) = false:=beq_eq_false_iff_ne.mpr c7
     have c7b1 : (a0 != 0) = true:=bne_iff_ne.mpr c7
     by_cases c8 : (wrap64 (Int.tdiv x10_1 a0)) = (Int.tmod x10_1 a0)
     ·rw [if_pos c8] at H
      have c8b0 : ((wrap64 (Int.tdiv x10_1 a0)) == (Int.tmod x10_1 a0)) = true:=beq_iff_eq.mpr c8
      have c8b1 : ((wrap64 (Int.tdiv x10_1 a0)) != (Int.tmod x10_1 a0)) = false:=bne_eq_false_iff_eq.mpr c8
      clear c8
      by_cases c9 : x296001_1.length < 17592186044416
      ·rw [if_pos c9] at H
       have LMc9:=Aside0.mk c9
       clear c9
       obtain ⟨y296,hy296⟩ : ∃ y_ : List Int,y_ = (x296001_1 ++ [0]):=⟨_,rfl⟩
       replace H : (spec_l2Unit.l0 k1 a0 (wrap64 (a0 * a0)) (wrap64 (x10_1 + 1)) a0 y296) = some (r1,r2):=by first|(rw [hy296];with_reducible exact H)|(have H2_:=(Option.bind_some _ _).symm.trans H;rw [hy296];with_reducible exact H2_)|(have H2_:=(Option.bind_some _ _).symm.trans H;with_reducible exact H2_)|with_reducible exact H|(rw [hy296];exact H)|exact H
       have Ny296:=Aside0.mk hy296
       clear hy296
       have H':=Aside0.mk H
       clear H
       have hnb10:=NB295_294.out
       have hnc10:=NB294_295.out
       obtain ⟨hcz11_0,hcz11_1,hfz11_0,hfz11_1⟩:=cf2_ BK295.out
       go_wp2_with (first|((with_reducible refine gate_builtin (b:=.append) (xs:=#[.tmp 21,.tmp 22]) rfl ?_);at_builtin;refine Kd.R_append (Kd.int .i64) (w0:=w) w.heap.size rfl (.tmp 21) (.tmp 22) 22 3 (.int .i64 0) 8 rfl Try.underlying22 info3 rfl (by decide) (by omega) u296001 x296001_1 0 [.int .i64 0] (fun _ => True) (fun _ => False) rfl rfl ?aP (fun _ hk => hk.elim) ?aF ?aO ?aB ?aS ?aL ?_;(case aP => exact rfl);(case aB => exact (be2_ HB.out GE294.out GE295.out));(case aF => exact (fun _ _ => trivial));(case aO => exact (pr_ HO_296001.out));(case aS => exact (below_size (be2_ HB.out GE294.out GE295.out)));(case aL => have:=LMc9.out;omega);intro v297 w12 ho hb hg hat;rw [← Ny296.out] at ho;replace BK294:=Aside0.mk (blk_grown (g:=gb294) (o:=.cells #[.int .i64 0,.slice none 0 0] 35 (0,0)) (pe_ BK294.out) hg (Kd.R_ne HO_296001.out BK294.out (by decide)));replace BK295:=Aside0.mk (blk_grown (g:=gb295) (o:=.cells #[.int .i64 a0,u296001] 35 (0,0)) (pe_ BK295.out) hg (Kd.R_ne HO_296001.out BK295.out (by decide)));replace HB:=Aside0.mk (hb);have HO298:=Aside0.mk (ho);clear HO_296001;clear ho hb hg hat;obtain ⟨Ao13,co13,eo13⟩:=Kd.R_slice HO298.out;subst eo13;obtain ⟨hcz14_0,hcz14_1,hfz14_0,hfz14_1⟩:=cf2_ BK295.out))
       repeat (go_quiet (first|((with_reducible refine gate_builtin (b:=.append) (xs:=#[.tmp 21,.tmp 22]) rfl ?_);at_builtin;refine Kd.R_append (Kd.int .i64) (w0:=w) w.heap.size rfl (.tmp 21) (.tmp 22) 22 3 (.int .i64 0) 8 rfl Try.underlying22 info3 rfl (by decide) (by omega) u296001 x296001_1 0 [.int .i64 0] (fun _ => True) (fun _ => False) rfl rfl ?aP (fun _ hk => hk.elim) ?aF ?aO ?aB ?aS ?aL ?_;(case aP => exact rfl);(case aB => exact (be2_ HB.out GE294.out GE295.out));(case aF => exact (fun _ _ => trivial));(case aO => exact (pr_ HO_296001.out));(case aS => exact (below_size (be2_ HB.out GE294.out GE295.out)));(case aL => have:=LMc9.out;omega);intro v297 w12 ho hb hg hat;rw [← Ny296.out] at ho;replace BK294:=Aside0.mk (blk_grown (g:=gb294) (o:=.cells #[.int .i64 0,.slice none 0 0] 35 (0,0)) (pe_ BK294.out) hg (Kd.R_ne HO_296001.out BK294.out (by decide)));replace BK295:=Aside0.mk (blk_grown (g:=gb295) (o:=.cells #[.int .i64 a0,u296001] 35 (0,0)) (pe_ BK295.out) hg (Kd.R_ne HO_296001.out BK295.out (by decide)));replace HB:=Aside0.mk (hb);have HO298:=Aside0.mk (ho);clear HO_296001;clear ho hb hg hat;obtain ⟨Ao13,co13,eo13⟩:=Kd.R_slice HO298.out;subst eo13;obtain ⟨hcz14_0,hcz14_1,hfz14_0,hfz14_1⟩:=cf2_ BK295.out));try go_wp2_with (first|((with_reducible refine gate_builtin (b:=.append) (xs:=#[.tmp 21,.tmp 22]) rfl ?_);at_builtin;refine Kd.R_append (Kd.int .i64) (w0:=w) w.heap.size rfl (.tmp 21) (.tmp 22) 22 3 (.int .i64 0) 8 rfl Try.underlying22 info3 rfl (by decide) (by omega) u296001 x296001_1 0 [.int .i64 0] (fun _ => True) (fun _ => False) rfl rfl ?aP (fun _ hk => hk.elim) ?aF ?aO ?aB ?aS ?aL ?_;(case aP => exact rfl);(case aB => exact (be2_ HB.out GE294.out GE295.out));(case aF => exact (fun _ _ => trivial));(case aO => exact (pr_ HO_296001.out));(case aS => exact (below_size (be2_ HB.out GE294.out GE295.out)));(case aL => have:=LMc9.out;omega);intro v297 w12 ho hb hg hat;rw [← Ny296.out] at ho;replace BK294:=Aside0.mk (blk_grown (g:=gb294) (o:=.cells #[.int .i64 0,.slice none 0 0] 35 (0,0)) (pe_ BK294.out) hg (Kd.R_ne HO_296001.out BK294.out (by decide)));replace BK295:=Aside0.mk (blk_grown (g:=gb295) (o:=.cells #[.int .i64 a0,u296001] 35 (0,0)) (pe_ BK295.out) hg (Kd.R_ne HO_296001.out BK295.out (by decide)));replace HB:=Aside0.mk (hb);have HO298:=Aside0.mk (ho);clear HO_296001;clear ho hb hg hat;obtain ⟨Ao13,co13,eo13⟩:=Kd.R_slice HO298.out;subst eo13;obtain ⟨hcz14_0,hcz14_1,hfz14_0,hfz14_1⟩:=cf2_ BK295.out)))
       go_roundg k1
       case measure => have:=HK1.out;omega
       case rel => exact ⟨(wrap64 (x10_1 + 1)),(y296),(.slice Ao13 y296.length co13),rs_,H',⟨by have:=HK1.out;omega⟩,⟨by refine pr_ ?_;exact Kd.R_mono (Kd.R_far (p:=⟨gb295,1,none⟩) (Kd.R_types HO298.out BK295.out (by decide)) (fun _ hk => hk.2) (.slice Ao13 y296.length co13)) (fun _ hk => trivial)⟩,⟨by refine pe_ ?_;refine blk_far ?_ NB294_295.out _;refine pe_ ?_;exact BK294.out⟩,⟨by refine pe_ ?_;refine blk_put (cs:=#[.int .i64 a0,u296001]) ?_ 1 _ rfl;refine pe_ ?_;exact BK295.out⟩,⟨be2_ HB.out GE294.out GE295.out⟩⟩
      ·rw [if_neg c9] at H
       exact absurd H (by simp)
     ·rw [if_neg c8] at H
      have c8b0 : ((wrap64 (Int.tdiv x10_1 a0)) == (Int.tmod x10_1 a0)) = false:=beq_eq_false_iff_ne.mpr c8
      have c8b1 : ((wrap64 (Int.tdiv x10_1 a0)) != (Int.tmod x10_1 a0)) = true:=bne_iff_ne.mpr c8
      by_cases c15 : x296001_1.length < 17592186044416
      ·rw [if_pos c15] at H
       have LMc15:=Aside0.mk c15
       clear c15
       obtain ⟨y299,hy299⟩ : ∃ y_ : List Int,y_ = (x296001_1 ++ [1000000]):=⟨_,rfl⟩
       replace H : (spec_l2Unit.l0 k1 a0 (wrap64 (a0 * a0)) (wrap64 (x10_1 + 1)) a0 y299) = some (r1,r2):=by first|(rw [hy299];with_reducible exact H)|(have H2_:=(Option.bind_some _ _).symm.trans H;rw [hy299];with_reducible exact H2_)|(have H2_:=(Option.bind_some _ _).symm.trans H;with_reducible exact H2_)|with_reducible exact H|(rw [hy299];exact H)|exact H
       have Ny299:=Aside0.mk hy299
       clear hy299
       have H':=Aside0.mk H
       clear H
       have hnb16:=NB295_294.out
       have hnc16:=NB294_295.out
       obtain ⟨hcz17_0,hcz17_1,hfz17_0,hfz17_1⟩:=cf2_ BK295.out
       go_wp2_with (first|((with_reducible refine gate_builtin (b:=.append) (xs:=#[.tmp 26,.tmp 27]) rfl ?_);at_builtin;refine Kd.R_append (Kd.int .i64) (w0:=w) w.heap.size rfl (.tmp 26) (.tmp 27) 22 3 (.int .i64 0) 8 rfl Try.underlying22 info3 rfl (by decide) (by omega) u296001 x296001_1 1000000 [.int .i64 1000000] (fun _ => True) (fun _ => False) rfl rfl ?aP (fun _ hk => hk.elim) ?aF ?aO ?aB ?aS ?aL ?_;(case aP => exact rfl);(case aB => exact (be2_ HB.out GE294.out GE295.out));(case aF => exact (fun _ _ => trivial));(case aO => exact (pr_ HO_296001.out));(case aS => exact (below_size (be2_ HB.out GE294.out GE295.out)));(case aL => have:=LMc15.out;omega);intro v300 w18 ho hb hg hat;rw [← Ny299.out] at ho;replace BK294:=Aside0.mk (blk_grown (g:=gb294) (o:=.cells #[.int .i64 0,.slice none 0 0] 35 (0,0)) (pe_ BK294.out) hg (Kd.R_ne HO_296001.out BK294.out (by decide)));replace BK295:=Aside0.mk (blk_grown (g:=gb295) (o:=.cells #[.int .i64 a0,u296001] 35 (0,0)) (pe_ BK295.out) hg (Kd.R_ne HO_296001.out BK295.out (by decide)));replace HB:=Aside0.mk (hb);have HO301:=Aside0.mk (ho);clear HO_296001;clear ho hb hg hat;obtain ⟨Ao19,co19,eo19⟩:=Kd.R_slice HO301.out;subst eo19;obtain ⟨hcz20_0,hcz20_1,hfz20_0,hfz20_1⟩:=cf2_ BK295.out))
       repeat (go_quiet (first|((with_reducible refine gate_builtin (b:=.append) (xs:=#[.tmp 26,.tmp 27]) rfl ?_);at_builtin;refine Kd.R_append (Kd.int .i64) (w0:=w) w.heap.size rfl (.tmp 26) (.tmp 27) 22 3 (.int .i64 0) 8 rfl Try.underlying22 info3 rfl (by decide) (by omega) u296001 x296001_1 1000000 [.int .i64 1000000] (fun _ => True) (fun _ => False) rfl rfl ?aP (fun _ hk => hk.elim) ?aF ?aO ?aB ?aS ?aL ?_;(case aP => exact rfl);(case aB => exact (be2_ HB.out GE294.out GE295.out));(case aF => exact (fun _ _ => trivial));(case aO => exact (pr_ HO_296001.out));(case aS => exact (below_size (be2_ HB.out GE294.out GE295.out)));(case aL => have:=LMc15.out;omega);intro v300 w18 ho hb hg hat;rw [← Ny299.out] at ho;replace BK294:=Aside0.mk (blk_grown (g:=gb294) (o:=.cells #[.int .i64 0,.slice none 0 0] 35 (0,0)) (pe_ BK294.out) hg (Kd.R_ne HO_296001.out BK294.out (by decide)));replace BK295:=Aside0.mk (blk_grown (g:=gb295) (o:=.cells #[.int .i64 a0,u296001] 35 (0,0)) (pe_ BK295.out) hg (Kd.R_ne HO_296001.out BK295.out (by decide)));replace HB:=Aside0.mk (hb);have HO301:=Aside0.mk (ho);clear HO_296001;clear ho hb hg hat;obtain ⟨Ao19,co19,eo19⟩:=Kd.R_slice HO301.out;subst eo19;obtain ⟨hcz20_0,hcz20_1,hfz20_0,hfz20_1⟩:=cf2_ BK295.out));try go_wp2_with (first|((with_reducible refine gate_builtin (b:=.append) (xs:=#[.tmp 26,.tmp 27]) rfl ?_);at_builtin;refine Kd.R_append (Kd.int .i64) (w0:=w) w.heap.size rfl (.tmp 26) (.tmp 27) 22 3 (.int .i64 0) 8 rfl Try.underlying22 info3 rfl (by decide) (by omega) u296001 x296001_1 1000000 [.int .i64 1000000] (fun _ => True) (fun _ => False) rfl rfl ?aP (fun _ hk => hk.elim) ?aF ?aO ?aB ?aS ?aL ?_;(case aP => exact rfl);(case aB => exact (be2_ HB.out GE294.out GE295.out));(case aF => exact (fun _ _ => trivial));(case aO => exact (pr_ HO_296001.out));(case aS => exact (below_size (be2_ HB.out GE294.out GE295.out)));(case aL => have:=LMc15.out;omega);intro v300 w18 ho hb hg hat;rw [← Ny299.out] at ho;replace BK294:=Aside0.mk (blk_grown (g:=gb294) (o:=.cells #[.int .i64 0,.slice none 0 0] 35 (0,0)) (pe_ BK294.out) hg (Kd.R_ne HO_296001.out BK294.out (by decide)));replace BK295:=Aside0.mk (blk_grown (g:=gb295) (o:=.cells #[.int .i64 a0,u296001] 35 (0,0)) (pe_ BK295.out) hg (Kd.R_ne HO_296001.out BK295.out (by decide)));replace HB:=Aside0.mk (hb);have HO301:=Aside0.mk (ho);clear HO_296001;clear ho hb hg hat;obtain ⟨Ao19,co19,eo19⟩:=Kd.R_slice HO301.out;subst eo19;obtain ⟨hcz20_0,hcz20_1,hfz20_0,hfz20_1⟩:=cf2_ BK295.out)))
       go_roundg k1
       case measure => have:=HK1.out;omega
       case rel => exact ⟨(wrap64 (x10_1 + 1)),(y299),(.slice Ao19 y299.length co19),rs_,H',⟨by have:=HK1.out;omega⟩,⟨by refine pr_ ?_;exact Kd.R_mono (Kd.R_far (p:=⟨gb295,1,none⟩) (Kd.R_types HO301.out BK295.out (by decide)) (fun _ hk => hk.2) (.slice Ao19 y299.length co19)) (fun _ hk => trivial)⟩,⟨by refine pe_ ?_;refine blk_far ?_ NB294_295.out _;refine pe_ ?_;exact BK294.out⟩,⟨by refine pe_ ?_;refine blk_put (cs:=#[.int .i64 a0,u296001]) ?_ 1 _ rfl;refine pe_ ?_;exact BK295.out⟩,⟨be2_ HB.out GE294.out GE295.out⟩⟩
      ·rw [if_neg c15] at H
       exact absurd H (by simp)
   ·rw [if_neg c6] at H
    have c6b0 : decide (x10_1 < (wrap64 (a0 * a0))) = false:=decide_eq_false c6
    clear c6
    simp only [Option.some.injEq,Prod.mk.injEq] at H
    obtain ⟨rfl,rfl⟩:=H
    have hnb21:=NB295_294.out
    have hnc21:=NB294_295.out
    obtain ⟨hcz22_0,hcz22_1,hfz22_0,hfz22_1⟩:=cf2_ BK295.out
    obtain ⟨hcz23_0,hcz23_1,hfz23_0,hfz23_1⟩:=cf2_ BK294.out
    obtain ⟨Ao24,co24,eo24⟩:=Kd.R_slice HO_296001.out
    subst eo24
    go_wp2
    repeat (go_quiet (fail);try go_wp2)
    refine bodyPost_ret (results_cell_row rfl _ _ gb294 35 #[.int .i64 a0,.slice Ao24 x296001_1.length co24] (0,0) _ rfl (by refine pe_ ?_;refine blk_put (cs:=#[.int .i64 a0,.slice none 0 0]) ?_ 1 _ rfl;refine pe_ ?_;refine blk_put (cs:=#[.int .i64 0,.slice none 0 0]) ?_ 0 _ rfl;refine pe_ ?_;exact BK294.out) Try.underlying35 rfl (by kernel_rfl)) rfl ?_
    exact ⟨_,er_,by refine pr_ ?_;exact Kd.R_mono (Kd.R_far (p:=⟨gb294,1,none⟩) (Kd.R_far (p:=⟨gb294,0,none⟩) (Kd.R_types HO_296001.out BK294.out (by decide)) (fun _ hk => hk.2) (.int .i64 a0)) (fun _ hk => hk.2) (.slice Ao24 x296001_1.length co24)) (fun _ hk => trivial),be2_ HB.out GE294.out GE295.out⟩
mutual
def spec_l3Matrix.l0 : Nat → ByteArray → Int → Int → Int → List Int → List Int → List (S92) → Int → List Int → Option (Int × List Int)
 | 0,_,_,_,_,_,_,_,_,_ => none
 | k + 1,x1,x15,x16,x303000,x303001,x303002,x303003,x305000,x305001 => if x16 < x15 then (if x305001.length < 17592186044416 then (spec_l3Matrix.l0 k x1 x15 (wrap64 (x16 + 1)) x303000 x303001 x303002 x303003 x305000 (x305001 ++ [1000000])) else (none)) else (spec_l3Matrix.l1 k x1 x303003 (x303003.length : Int) 0 x303000 x303001 x303002 x303003 x305000 x305001)
def spec_l3Matrix.l1 : Nat → ByteArray → List (S92) → Int → Int → Int → List Int → List Int → List (S92) → Int → List Int → Option (Int × List Int)
 | 0,_,_,_,_,_,_,_,_,_,_ => none
 | k + 1,x1,x25,x26,x27,x303000,x303001,x303002,x303003,x305000,x305001 => if x27 < x26 then (if 0 ≤ x27 then (if x27 < (x25.length : Int) then (if ((rd_T92 x25 x27).f1).toList = x1.toList then (if 0 ≤ (wrap64 ((wrap64 (((rd_T92 x25 x27).f0) * x303000)) + ((rd_T92 x25 x27).f2))) then (if (wrap64 ((wrap64 (((rd_T92 x25 x27).f0) * x303000)) + ((rd_T92 x25 x27).f2))) < (x305001.length : Int) then (spec_l3Matrix.l1 k x1 x25 x26 (wrap64 (x27 + 1)) x303000 x303001 x303002 x303003 x305000 (x305001.set ((wrap64 ((wrap64 (((rd_T92 x25 x27).f0) * x303000)) + ((rd_T92 x25 x27).f2))) : Int).toNat ((rd_T92 x25 x27).f3))) else (none)) else (none)) else (spec_l3Matrix.l1 k x1 x25 x26 (wrap64 (x27 + 1)) x303000 x303001 x303002 x303003 x305000 x305001)) else (none)) else (none)) else (some (x305000,x305001))
end
def spec_l3Matrix.f (k : Nat) (a0_0 : Int) (l0_1 : List Int) (l0_2 : List Int) (l0_3 : List (S92)) (a1 : ByteArray) : Option (Int × List Int):=spec_l3Matrix.l0 k a1 (wrap64 (a0_0 * a0_0)) 0 a0_0 l0_1 l0_2 l0_3 a0_0 ([] : List Int)
theorem spec_l3Matrix.mono_l : ∀ k,(∀ y0 y1 y2 y3 y4 y5 y6 y7 y8,LeO (spec_l3Matrix.l0 k y0 y1 y2 y3 y4 y5 y6 y7 y8) (spec_l3Matrix.l0 (k + 1) y0 y1 y2 y3 y4 y5 y6 y7 y8)) ∧ (∀ y0 y1 y2 y3 y4 y5 y6 y7 y8 y9,LeO (spec_l3Matrix.l1 k y0 y1 y2 y3 y4 y5 y6 y7 y8 y9) (spec_l3Matrix.l1 (k + 1) y0 y1 y2 y3 y4 y5 y6 y7 y8 y9))
 | 0 => ⟨fun _ _ _ _ _ _ _ _ _ r h => by simp [spec_l3Matrix.l0] at h,fun _ _ _ _ _ _ _ _ _ _ r h => by simp [spec_l3Matrix.l1] at h⟩
 | k + 1 => by
  obtain ⟨ih0,ih1⟩:=spec_l3Matrix.mono_l k
  refine ⟨?_,?_⟩
  ·intro y0 y1 y2 y3 y4 y5 y6 y7 y8
   unfold spec_l3Matrix.l0
   repeat' first
   | (with_reducible exact ih0 _ _ _ _ _ _ _ _ _)
   | (with_reducible exact ih1 _ _ _ _ _ _ _ _ _ _)
   | (with_reducible exact LeO.refl _)
   | (with_reducible exact LeO.none _)
   | (with_reducible refine LeO.ite ?_ ?_)
   | (with_reducible refine LeO.bind ?_ (fun _ => ?_))
   | exact ih0 _ _ _ _ _ _ _ _ _
   | exact ih1 _ _ _ _ _ _ _ _ _ _
   | exact LeO.none _
   | refine LeO.ite ?_ ?_
   | refine LeO.bind ?_ (fun _ => ?_)
  ·intro y0 y1 y2 y3 y4 y5 y6 y7 y8 y9
   unfold spec_l3Matrix.l1
   repeat' first
   | (with_reducible exact ih0 _ _ _ _ _ _ _ _ _)
   | (with_reducible exact ih1 _ _ _ _ _ _ _ _ _ _)
   | (with_reducible exact LeO.refl _)
   | (with_reducible exact LeO.none _)
   | (with_reducible refine LeO.ite ?_ ?_)
   | (with_reducible refine LeO.bind ?_ (fun _ => ?_))
   | exact ih0 _ _ _ _ _ _ _ _ _
   | exact ih1 _ _ _ _ _ _ _ _ _ _
   | exact LeO.none _
   | refine LeO.ite ?_ ?_
   | refine LeO.bind ?_ (fun _ => ?_)
theorem spec_l3Matrix.mono : ∀ a0 a1 a2 a3 a4 k,LeO (spec_l3Matrix.f k a0 a1 a2 a3 a4) (spec_l3Matrix.f (k + 1) a0 a1 a2 a3 a4):=by
 intro a0 a1 a2 a3 a4 k
 obtain ⟨ih0,ih1⟩:=spec_l3Matrix.mono_l k
 unfold spec_l3Matrix.f
 repeat' first
   | (with_reducible exact ih0 _ _ _ _ _ _ _ _ _)
   | (with_reducible exact ih1 _ _ _ _ _ _ _ _ _ _)
   | (with_reducible exact LeO.refl _)
   | (with_reducible exact LeO.none _)
   | (with_reducible refine LeO.ite ?_ ?_)
   | (with_reducible refine LeO.bind ?_ (fun _ => ?_))
   | exact ih0 _ _ _ _ _ _ _ _ _
   | exact ih1 _ _ _ _ _ _ _ _ _ _
   | exact LeO.none _
   | refine LeO.ite ?_ ?_
   | refine LeO.bind ?_ (fun _ => ?_)
set_option maxHeartbeats 8000000 in
set_option maxRecDepth 100000 in
theorem spec_l3Matrix.calls (k : Nat) (a0_0 : Int) (A0_1 : Option Addr) (c0_1 : Nat) (l0_1 : List Int) (A0_2 : Option Addr) (c0_2 : Nat) (l0_2 : List Int) (A0_3 : Option Addr) (c0_3 : Nat) (l0_3 : List (S92)) (a1 : ByteArray) (r1 : Int) (r2 : List Int) (w : World) (hr0_1 : Kd.C (Kd.int .i64) w A0_1 l0_1.length l0_1) (hc0_1 : l0_1.length ≤ c0_1) (hr0_2 : Kd.C (Kd.int .i64) w A0_2 l0_2.length l0_2) (hc0_2 : l0_2.length ≤ c0_2) (hr0_3 : Kd.C k92 w A0_3 l0_3.length l0_3) (hc0_3 : l0_3.length ≤ c0_3) (h : spec_l3Matrix.f k a0_0 l0_1 l0_2 l0_3 a1 = some (r1,r2)) :
  Calls Try.prog 132 #[.agg #[.int .i64 a0_0,.slice A0_1 l0_1.length c0_1,.slice A0_2 l0_2.length c0_2,.slice A0_3 l0_3.length c0_3],.string a1] w fun e w' => ∃ v1_ : Value,e = .returned (.agg #[.int .i64 r1,v1_]) ∧ Kd.R (Kd.int .i64) 3 w' w.heap.size (fun _ => True) v1_ r2 ∧ Below w.heap.size w w':=by
 have hu33:=Try.underlying33
 have hu35:=Try.underlying35
 have hu92:=Try.underlying92
 have HR0_1:=Aside0.mk hr0_1
 have HC0_1:=Aside0.mk hc0_1
 clear hr0_1 hc0_1
 have HR0_2:=Aside0.mk hr0_2
 have HC0_2:=Aside0.mk hc0_2
 clear hr0_2 hc0_2
 have HR0_3:=Aside0.mk hr0_3
 have HC0_3:=Aside0.mk hc0_3
 clear hr0_3 hc0_3
 have HB:=Aside0.mk (Below.refl w.heap.size w)
 have H : (spec_l3Matrix.l0 k a1 (wrap64 (a0_0 * a0_0)) 0 a0_0 l0_1 l0_2 l0_3 a0_0 ([] : List Int)) = some (r1,r2):=h
 clear h
 have H':=Aside0.mk H
 clear H
 go_enter Try.func132,Try.ntmps132
 go_wp2_with (first|((with_reducible refine bev_ (N:=2) rfl rfl (cs:=#[.int .i64 a0_0,.slice A0_1 l0_1.length c0_1,.slice A0_2 l0_2.length c0_2,.slice A0_3 l0_3.length c0_3]) (t:=33) ?hr ?_);(case hr => first|(go_simp;done)|(go_simp;rfl));intro gb302 hg w3 hbox hb;have BK302:=Aside0.mk (hbox);have GW302:=Aside0.mk (szg_ hg (below_size (be0_ HB.out)));have GE302:=Aside0.mk (szg_ hg (below_size (be0_ HB.out)));replace HB:=Aside0.mk (below_step (be0_ HB.out) hb);clear hb hbox hg)|((with_reducible refine bev_ (N:=4) rfl rfl (cs:=#[.int .i64 0,.slice none 0 0]) (t:=35) ?hr ?_);(case hr => first|(go_simp;done)|(go_simp;rfl));intro gb303 hg w4 hbox hb;have BK303:=Aside0.mk (hbox);have GW303:=Aside0.mk (szg_ hg (below_size (be1_ HB.out GE302.out)));have GE303:=Aside0.mk (szg_ hg (below_size (be1_ HB.out GE302.out)));replace HB:=Aside0.mk (below_step (be1_ HB.out GE302.out) hb);have NB302_303:=Aside0.mk (nl_ hg BK302.out);have NB303_302:=Aside0.mk (ng_ hg BK302.out);replace BK302:=Aside0.mk (kb_ BK302.out hb);clear hb hbox hg;have hnb5:=NB302_303.out;have hnc5:=NB303_302.out;obtain ⟨hcz6_0,hcz6_1,hcz6_2,hcz6_3,hfz6_0,hfz6_1,hfz6_2,hfz6_3⟩:=cf4_ BK302.out)|((with_reducible refine bev_ (N:=5) rfl rfl (cs:=#[.int .i64 0,.slice none 0 0]) (t:=35) ?hr ?_);(case hr => first|(go_simp;done)|(go_simp;rfl));intro gb304 hg w7 hbox hb;have BK304:=Aside0.mk (hbox);have GW304:=Aside0.mk (szg_ hg (below_size (be2_ HB.out GE302.out GE303.out)));have GE304:=Aside0.mk (szg_ hg (below_size (be2_ HB.out GE302.out GE303.out)));replace HB:=Aside0.mk (below_step (be2_ HB.out GE302.out GE303.out) hb);have NB302_304:=Aside0.mk (nl_ hg BK302.out);have NB304_302:=Aside0.mk (ng_ hg BK302.out);replace BK302:=Aside0.mk (kb_ BK302.out hb);have NB303_304:=Aside0.mk (nl_ hg BK303.out);have NB304_303:=Aside0.mk (ng_ hg BK303.out);replace BK303:=Aside0.mk (kb_ BK303.out hb);clear hb hbox hg;have hnb8:=NB304_302.out;have hnc8:=NB302_304.out;have hnb9:=NB304_303.out;have hnc9:=NB303_304.out;obtain ⟨hcz10_0,hcz10_1,hfz10_0,hfz10_1⟩:=cf2_ BK304.out;obtain ⟨hcz11_0,hcz11_1,hcz11_2,hcz11_3,hfz11_0,hfz11_1,hfz11_2,hfz11_3⟩:=cf4_ BK302.out))
 go_loopg [16] k (fun kq v16 w' => ∃ (x16_1 : Int) (x305001_1 : List Int) (u305001 : Value),v16 = .int .i64 x16_1 ∧ Aside0 (spec_l3Matrix.l0 kq a1 (wrap64 (a0_0 * a0_0)) x16_1 a0_0 l0_1 l0_2 l0_3 a0_0 x305001_1 = some (r1,r2)) ∧ Aside0 (kq ≤ k) ∧ Aside0 (Kd.R (Kd.int .i64) 3 w' w.heap.size (fun _ => True) u305001 x305001_1) ∧ Aside0 (w'.heap[gb302]? = some (.cells #[.int .i64 a0_0,(.slice A0_1 l0_1.length c0_1),(.slice A0_2 l0_2.length c0_2),(.slice A0_3 l0_3.length c0_3)] 33 (0,0))) ∧ Aside0 (w'.heap[gb303]? = some (.cells #[.int .i64 0,(.slice none 0 0)] 35 (0,0))) ∧ Aside0 (w'.heap[gb304]? = some (.cells #[.int .i64 a0_0,u305001] 35 (0,0))) ∧ Aside0 (Below w.heap.size w w'))
 case atStart => exact ⟨(0),(([] : List Int)),(.slice none 0 0),rs_,H',⟨Nat.le_refl _⟩,⟨by first|exact Kd.R_nil _ _ _ _ _|exact Kd.N_nil _ _ _ _ _|exact Kd.V_nil _ _ _ _ _|exact Kd.Q_nil _ _ _ _ _|exact Kd.S_nil _ _ _ _ _⟩,⟨by refine pe_ ?_;refine blk_far ?_ NB302_304.out _;refine pe_ ?_;refine blk_far ?_ NB302_304.out _;refine pe_ ?_;exact BK302.out⟩,⟨by refine pe_ ?_;refine blk_far ?_ NB303_304.out _;refine pe_ ?_;refine blk_far ?_ NB303_304.out _;refine pe_ ?_;exact BK303.out⟩,⟨by refine pe_ ?_;refine blk_put (cs:=#[.int .i64 a0_0,.slice none 0 0]) ?_ 1 _ rfl;refine pe_ ?_;refine blk_put (cs:=#[.int .i64 0,.slice none 0 0]) ?_ 0 _ rfl;refine pe_ ?_;exact BK304.out⟩,⟨be3_ HB.out GE302.out GE303.out GE304.out⟩⟩
 case round =>
  clear H'
  try clear c1
  try clear p2
  try clear c5
  try clear p6
  try clear c8
  try clear c9
  try clear hcz10_0
  try clear hcz10_1
  try clear hcz11_0
  try clear hcz11_1
  try clear hcz11_2
  try clear hcz11_3
  try clear hcz6_0
  try clear hcz6_1
  try clear hcz6_2
  try clear hcz6_3
  try clear hfz10_0
  try clear hfz10_1
  try clear hfz11_0
  try clear hfz11_1
  try clear hfz11_2
  try clear hfz11_3
  try clear hfz6_0
  try clear hfz6_1
  try clear hfz6_2
  try clear hfz6_3
  obtain ⟨x16_1,x305001_1,u305001,rfl,HA,HK1,HO_305001,BK302,BK303,BK304,HB⟩:=hrel
  cases gk with
  | zero => exact absurd HA.out (by simp [spec_l3Matrix.l0])
  | succ k1 =>
   have H:=HA.out
   clear HA
   simp only [spec_l3Matrix.l0] at H
   by_cases c12 : x16_1 < (wrap64 (a0_0 * a0_0))
   ·rw [if_pos c12] at H
    have c12b0 : decide (x16_1 < (wrap64 (a0_0 * a0_0))) = true:=decide_eq_true c12
    clear c12
    by_cases c13 : x305001_1.length < 17592186044416
    ·rw [if_pos c13] at H
     have LMc13:=Aside0.mk c13
     clear c13
     obtain ⟨y305,hy305⟩ : ∃ y_ : List Int,y_ = (x305001_1 ++ [1000000]):=⟨_,rfl⟩
     replace H : (spec_l3Matrix.l0 k1 a1 (wrap64 (a0_0 * a0_0)) (wrap64 (x16_1 + 1)) a0_0 l0_1 l0_2 l0_3 a0_0 y305) = some (r1,r2):=by first|(rw [hy305];with_reducible exact H)|(have H2_:=(Option.bind_some _ _).symm.trans H;rw [hy305];with_reducible exact H2_)|(have H2_:=(Option.bind_some _ _).symm.trans H;with_reducible exact H2_)|with_reducible exact H|(rw [hy305];exact H)|exact H
     have Ny305:=Aside0.mk hy305
     clear hy305
     have H':=Aside0.mk H
     clear H
     have hnb14:=NB304_302.out
     have hnc14:=NB302_304.out
     have hnb15:=NB304_303.out
     have hnc15:=NB303_304.out
     obtain ⟨hcz16_0,hcz16_1,hfz16_0,hfz16_1⟩:=cf2_ BK304.out
     go_wp2_with (first|((with_reducible refine gate_builtin (b:=.append) (xs:=#[.tmp 19,.tmp 20]) rfl ?_);at_builtin;refine Kd.R_append (Kd.int .i64) (w0:=w) w.heap.size rfl (.tmp 19) (.tmp 20) 22 3 (.int .i64 0) 8 rfl Try.underlying22 info3 rfl (by decide) (by omega) u305001 x305001_1 1000000 [.int .i64 1000000] (fun _ => True) (fun _ => False) rfl rfl ?aP (fun _ hk => hk.elim) ?aF ?aO ?aB ?aS ?aL ?_;(case aP => exact rfl);(case aB => exact (be3_ HB.out GE302.out GE303.out GE304.out));(case aF => exact (fun _ _ => trivial));(case aO => exact (pr_ HO_305001.out));(case aS => exact (below_size (be3_ HB.out GE302.out GE303.out GE304.out)));(case aL => have:=LMc13.out;omega);intro v306 w17 ho hb hg hat;rw [← Ny305.out] at ho;replace BK302:=Aside0.mk (blk_grown (g:=gb302) (o:=.cells #[.int .i64 a0_0,.slice A0_1 l0_1.length c0_1,.slice A0_2 l0_2.length c0_2,.slice A0_3 l0_3.length c0_3] 33 (0,0)) (pe_ BK302.out) hg (Kd.R_ne HO_305001.out BK302.out (by decide)));replace BK303:=Aside0.mk (blk_grown (g:=gb303) (o:=.cells #[.int .i64 0,.slice none 0 0] 35 (0,0)) (pe_ BK303.out) hg (Kd.R_ne HO_305001.out BK303.out (by decide)));replace BK304:=Aside0.mk (blk_grown (g:=gb304) (o:=.cells #[.int .i64 a0_0,u305001] 35 (0,0)) (pe_ BK304.out) hg (Kd.R_ne HO_305001.out BK304.out (by decide)));replace HB:=Aside0.mk (hb);have HO307:=Aside0.mk (ho);clear HO_305001;clear ho hb hg hat;obtain ⟨Ao18,co18,eo18⟩:=Kd.R_slice HO307.out;subst eo18;obtain ⟨hcz19_0,hcz19_1,hfz19_0,hfz19_1⟩:=cf2_ BK304.out))
     go_roundg k1
     case measure => have:=HK1.out;omega
     case rel => exact ⟨(wrap64 (x16_1 + 1)),(y305),(.slice Ao18 y305.length co18),rs_,H',⟨by have:=HK1.out;omega⟩,⟨by refine pr_ ?_;exact Kd.R_mono (Kd.R_far (p:=⟨gb304,1,none⟩) (Kd.R_types HO307.out BK304.out (by decide)) (fun _ hk => hk.2) (.slice Ao18 y305.length co18)) (fun _ hk => trivial)⟩,⟨by refine pe_ ?_;refine blk_far ?_ NB302_304.out _;refine pe_ ?_;exact BK302.out⟩,⟨by refine pe_ ?_;refine blk_far ?_ NB303_304.out _;refine pe_ ?_;exact BK303.out⟩,⟨by refine pe_ ?_;refine blk_put (cs:=#[.int .i64 a0_0,u305001]) ?_ 1 _ rfl;refine pe_ ?_;exact BK304.out⟩,⟨be3_ HB.out GE302.out GE303.out GE304.out⟩⟩
    ·rw [if_neg c13] at H
     exact absurd H (by simp)
   ·rw [if_neg c12] at H
    have c12b0 : decide (x16_1 < (wrap64 (a0_0 * a0_0))) = false:=decide_eq_false c12
    clear c12
    have H':=Aside0.mk H
    clear H
    have hnb20:=NB302_303.out
    have hnc20:=NB303_302.out
    have hnb21:=NB302_304.out
    have hnc21:=NB304_302.out
    obtain ⟨hcz22_0,hcz22_1,hcz22_2,hcz22_3,hfz22_0,hfz22_1,hfz22_2,hfz22_3⟩:=cf4_ BK302.out
    go_wp2
    go_loopg [27] k1 (fun kq v27 w' => ∃ (x27_2 : Int) (x305001_2 : List Int) (u305001 : Value),v27 = .int .i64 x27_2 ∧ Aside0 (spec_l3Matrix.l1 kq a1 l0_3 (l0_3.length : Int) x27_2 a0_0 l0_1 l0_2 l0_3 a0_0 x305001_2 = some (r1,r2)) ∧ Aside0 (kq ≤ k1) ∧ Aside0 (Kd.R (Kd.int .i64) 3 w' w.heap.size (fun _ => True) u305001 x305001_2) ∧ Aside0 (w'.heap[gb302]? = some (.cells #[.int .i64 a0_0,(.slice A0_1 l0_1.length c0_1),(.slice A0_2 l0_2.length c0_2),(.slice A0_3 l0_3.length c0_3)] 33 (0,0))) ∧ Aside0 (w'.heap[gb303]? = some (.cells #[.int .i64 0,(.slice none 0 0)] 35 (0,0))) ∧ Aside0 (w'.heap[gb304]? = some (.cells #[.int .i64 a0_0,u305001] 35 (0,0))) ∧ Aside0 (Below w.heap.size w w'))
    case atStart => exact ⟨(0),(x305001_1),(u305001),rs_,H',⟨Nat.le_refl _⟩,⟨pr_ HO_305001.out⟩,⟨pe_ BK302.out⟩,⟨pe_ BK303.out⟩,⟨pe_ BK304.out⟩,⟨be3_ HB.out GE302.out GE303.out GE304.out⟩⟩
    case round =>
     clear H'
     try clear c1
     try clear c2
     try clear p2
     try clear c5
     try clear p6
     try clear c8
     try clear c9
     try clear c12
     try clear c12b0
     try clear c13
     try clear c14
     try clear c15
     try clear c20
     try clear c21
     try clear hcz10_0
     try clear hcz10_1
     try clear hcz11_0
     try clear hcz11_1
     try clear hcz11_2
     try clear hcz11_3
     try clear hcz16_0
     try clear hcz16_1
     try clear hcz19_0
     try clear hcz19_1
     try clear hcz22_0
     try clear hcz22_1
     try clear hcz22_2
     try clear hcz22_3
     try clear hcz6_0
     try clear hcz6_1
     try clear hcz6_2
     try clear hcz6_3
     try clear hfz10_0
     try clear hfz10_1
     try clear hfz11_0
     try clear hfz11_1
     try clear hfz11_2
     try clear hfz11_3
     try clear hfz16_0
     try clear hfz16_1
     try clear hfz19_0
     try clear hfz19_1
     try clear hfz22_0
     try clear hfz22_1
     try clear hfz22_2
     try clear hfz22_3
     try clear hfz6_0
     try clear hfz6_1
     try clear hfz6_2
     try clear hfz6_3
     try clear p2
     try clear p6
     obtain ⟨x27_2,x305001_2,u305001,rfl,HA,HK2,HO_305001,BK302,BK303,BK304,HB⟩:=hrel
     cases gk with
     | zero => exact absurd HA.out (by simp [spec_l3Matrix.l1])
     | succ k2 =>
      have H:=HA.out
      clear HA
      simp only [spec_l3Matrix.l1] at H
      by_cases c23 : x27_2 < (l0_3.length : Int)
      ·rw [if_pos c23] at H
       have c23b0 : decide (x27_2 < (l0_3.length : Int)) = true:=decide_eq_true c23
       clear c23
       by_cases c24 : 0 ≤ x27_2
       ·rw [if_pos c24] at H
        have c24b0 : decide (0 ≤ x27_2) = true:=decide_eq_true c24
        clear c24
        by_cases c25 : x27_2 < (l0_3.length : Int)
        ·rw [if_pos c25] at H
         have c25b0 : decide (x27_2 < (l0_3.length : Int)) = true:=decide_eq_true c25
         clear c25
         by_cases c26 : ((rd_T92 l0_3 x27_2).f1).toList = a1.toList
         ·rw [if_pos c26] at H
          have c26b0 : (((rd_T92 l0_3 x27_2).f1).toList == a1.toList) = true:=beq_iff_eq.mpr c26
          have c26b1 : (((rd_T92 l0_3 x27_2).f1).toList != a1.toList) = false:=bne_eq_false_iff_eq.mpr c26
          clear c26
          obtain ⟨ji27,hji27⟩ : ∃ j_ : Int,(wrap64 ((wrap64 (((rd_T92 l0_3 x27_2).f0) * a0_0)) + ((rd_T92 l0_3 x27_2).f2))) = j_:=⟨_,rfl⟩
          replace H : (if 0 ≤ (ji27) then (if (ji27) < (x305001_2.length : Int) then (spec_l3Matrix.l1 k2 a1 l0_3 (l0_3.length : Int) (wrap64 (x27_2 + 1)) a0_0 l0_1 l0_2 l0_3 a0_0 (x305001_2.set ((ji27) : Int).toNat ((rd_T92 l0_3 x27_2).f3))) else (none)) else (none)) = some (r1,r2):=by first|(rw [hji27] at H;exact H)|(simp only [hji27] at H ⊢;exact H)
          have hji27w : (IntKind.i64.wrap ((wrap64 (((rd_T92 l0_3 x27_2).f0) * a0_0)) + ((rd_T92 l0_3 x27_2).f2))) = ji27:=(i64_w _).trans hji27
          by_cases c28 : 0 ≤ (ji27)
          ·rw [if_pos c28] at H
           have c28b0 : decide (0 ≤ (ji27)) = true:=decide_eq_true c28
           clear c28
           by_cases c29 : (ji27) < (x305001_2.length : Int)
           ·rw [if_pos c29] at H
            have c29b0 : decide ((ji27) < (x305001_2.length : Int)) = true:=decide_eq_true c29
            clear c29
            obtain ⟨y310,hy310⟩ : ∃ y_ : List Int,y_ = (x305001_2.set ((ji27) : Int).toNat ((rd_T92 l0_3 x27_2).f3)):=⟨_,rfl⟩
            replace H : (spec_l3Matrix.l1 k2 a1 l0_3 (l0_3.length : Int) (wrap64 (x27_2 + 1)) a0_0 l0_1 l0_2 l0_3 a0_0 y310) = some (r1,r2):=by first|(rw [hy310];with_reducible exact H)|(have H2_:=(Option.bind_some _ _).symm.trans H;rw [hy310];with_reducible exact H2_)|(have H2_:=(Option.bind_some _ _).symm.trans H;with_reducible exact H2_)|with_reducible exact H|(rw [hy310];exact H)|exact H
            have Ny310:=Aside0.mk hy310
            clear hy310
            have H':=Aside0.mk H
            clear H
            have p308 : 0 ≤ (x27_2 : Int):=of_decide_eq_true (by first|(with_reducible assumption)|assumption)
            have q308 : x27_2 < (l0_3.length : Int):=of_decide_eq_true (by first|(with_reducible assumption)|assumption)
            obtain ⟨ad308,e308,hx308_0,hx308_1,hx308_2,hx308_3⟩:=at_T92 HR0_3.out x27_2 p308 q308
            cases e308
            replace hx308_0:=hbc_ HB.out hx308_0
            replace hx308_1:=hbc_ HB.out hx308_1
            replace hx308_2:=hbc_ HB.out hx308_2
            replace hx308_3:=hbc_ HB.out hx308_3
            replace p308:=eq_true p308
            replace q308:=eq_true q308
            go_wp2_with (first|((with_reducible refine bev_ (N:=7) rfl rfl (cs:=#[.int .i64 0,.string (⟨#[]⟩ : ByteArray),.int .i64 0,.int .i64 0]) (t:=92) ?hr ?_);(case hr => first|(go_simp;done)|(go_simp;rfl));intro gb309 hg w31 hbox hb;replace HO_305001:=Aside0.mk (Kd.R_below (pr_ HO_305001.out) hb);have BK309:=Aside0.mk (hbox);have GW309:=Aside0.mk (szg_ hg (below_size (be3_ HB.out GE302.out GE303.out GE304.out)));have GE309:=Aside0.mk (szg_ hg (below_size (be3_ HB.out GE302.out GE303.out GE304.out)));replace HB:=Aside0.mk (below_step (be3_ HB.out GE302.out GE303.out GE304.out) hb);have NB302_309:=Aside0.mk (nl_ hg BK302.out);have NB309_302:=Aside0.mk (ng_ hg BK302.out);replace BK302:=Aside0.mk (kb_ BK302.out hb);have NB303_309:=Aside0.mk (nl_ hg BK303.out);have NB309_303:=Aside0.mk (ng_ hg BK303.out);replace BK303:=Aside0.mk (kb_ BK303.out hb);have NB304_309:=Aside0.mk (nl_ hg BK304.out);have NB309_304:=Aside0.mk (ng_ hg BK304.out);replace BK304:=Aside0.mk (kb_ BK304.out hb);clear hb hbox hg;have hnb32:=NB309_302.out;have hnc32:=NB302_309.out;have hnb33:=NB309_303.out;have hnc33:=NB303_309.out;have hnb34:=NB309_304.out;have hnc34:=NB304_309.out;obtain ⟨hcz35_0,hcz35_1,hcz35_2,hcz35_3,hfz35_0,hfz35_1,hfz35_2,hfz35_3⟩:=cf4_ BK309.out)|((with_reducible refine gate_store (t:=92) (p:=7) rfl ?_);refine store_event (t:=92) (p:=7) (v:=?vo_w36) (w1:=((((w31.setCell ⟨gb309,0,none⟩ (.int .i64 ((rd_T92 l0_3 x27_2).f0))).setCell ⟨gb309,1,none⟩ (.string ((rd_T92 l0_3 x27_2).f1))).setCell ⟨gb309,2,none⟩ (.int .i64 ((rd_T92 l0_3 x27_2).f2))).setCell ⟨gb309,3,none⟩ (.int .i64 ((rd_T92 l0_3 x27_2).f3)))) ?hg ?ho ?hn ?hr ?_;(case ho => rfl);(case hg => rfl);(case hn => rfl);(case hr => first|(go_simp;done)|(go_simp;rfl));intro w36 hw;have n0_ : Aside0 (Kd.R (Kd.int .i64) 3 w36 w.heap.size (fun _ => True) u305001 x305001_2):=⟨(by rw [hw];exact (by refine pr_ ?_;exact Kd.R_mono (Kd.R_far (p:=⟨gb309,3,none⟩) (Kd.R_far (p:=⟨gb309,2,none⟩) (Kd.R_far (p:=⟨gb309,1,none⟩) (Kd.R_far (p:=⟨gb309,0,none⟩) (Kd.R_types HO_305001.out BK309.out (by decide)) (fun _ hk => hk.2) (.int .i64 ((rd_T92 l0_3 x27_2).f0))) (fun _ hk => hk.2) (.string ((rd_T92 l0_3 x27_2).f1))) (fun _ hk => hk.2) (.int .i64 ((rd_T92 l0_3 x27_2).f2))) (fun _ hk => hk.2) (.int .i64 ((rd_T92 l0_3 x27_2).f3))) (fun _ hk => trivial)))⟩;have n1_ : Aside0 (w36.heap[gb302]? = some (.cells #[.int .i64 a0_0,.slice A0_1 l0_1.length c0_1,.slice A0_2 l0_2.length c0_2,.slice (some ad308) l0_3.length c0_3] 33 (0,0))):=⟨(by rw [hw];exact (by refine pe_ ?_;refine blk_far ?_ NB302_309.out _;refine pe_ ?_;refine blk_far ?_ NB302_309.out _;refine pe_ ?_;refine blk_far ?_ NB302_309.out _;refine pe_ ?_;refine blk_far ?_ NB302_309.out _;refine pe_ ?_;exact BK302.out))⟩;have n2_ : Aside0 (w36.heap[gb303]? = some (.cells #[.int .i64 0,.slice none 0 0] 35 (0,0))):=⟨(by rw [hw];exact (by refine pe_ ?_;refine blk_far ?_ NB303_309.out _;refine pe_ ?_;refine blk_far ?_ NB303_309.out _;refine pe_ ?_;refine blk_far ?_ NB303_309.out _;refine pe_ ?_;refine blk_far ?_ NB303_309.out _;refine pe_ ?_;exact BK303.out))⟩;have n3_ : Aside0 (w36.heap[gb304]? = some (.cells #[.int .i64 a0_0,u305001] 35 (0,0))):=⟨(by rw [hw];exact (by refine pe_ ?_;refine blk_far ?_ NB304_309.out _;refine pe_ ?_;refine blk_far ?_ NB304_309.out _;refine pe_ ?_;refine blk_far ?_ NB304_309.out _;refine pe_ ?_;refine blk_far ?_ NB304_309.out _;refine pe_ ?_;exact BK304.out))⟩;have n4_ : Aside0 (w36.heap[gb309]? = some (.cells #[.int .i64 ((rd_T92 l0_3 x27_2).f0),.string ((rd_T92 l0_3 x27_2).f1),.int .i64 ((rd_T92 l0_3 x27_2).f2),.int .i64 ((rd_T92 l0_3 x27_2).f3)] 92 (0,0))):=⟨(by rw [hw];exact (by refine pe_ ?_;refine blk_put (cs:=#[.int .i64 ((rd_T92 l0_3 x27_2).f0),.string ((rd_T92 l0_3 x27_2).f1),.int .i64 ((rd_T92 l0_3 x27_2).f2),.int .i64 0]) ?_ 3 _ rfl;refine pe_ ?_;refine blk_put (cs:=#[.int .i64 ((rd_T92 l0_3 x27_2).f0),.string ((rd_T92 l0_3 x27_2).f1),.int .i64 0,.int .i64 0]) ?_ 2 _ rfl;refine pe_ ?_;refine blk_put (cs:=#[.int .i64 ((rd_T92 l0_3 x27_2).f0),.string (⟨#[]⟩ : ByteArray),.int .i64 0,.int .i64 0]) ?_ 1 _ rfl;refine pe_ ?_;refine blk_put (cs:=#[.int .i64 0,.string (⟨#[]⟩ : ByteArray),.int .i64 0,.int .i64 0]) ?_ 0 _ rfl;refine pe_ ?_;exact BK309.out))⟩;have n5_ : Aside0 (Below w.heap.size w w36):=⟨(by rw [hw];exact (be4_ HB.out GE302.out GE303.out GE304.out GE309.out))⟩;clear hw;clear HO_305001;clear BK302;clear BK303;clear BK304;clear BK309;clear HB;have HO_305001:=n0_;have BK302:=n1_;have BK303:=n2_;have BK304:=n3_;have BK309:=n4_;have HB:=n5_;clear n0_ n1_ n2_ n3_ n4_ n5_;obtain ⟨hcz37_0,hcz37_1,hcz37_2,hcz37_3,hfz37_0,hfz37_1,hfz37_2,hfz37_3⟩:=cf4_ BK309.out;have hnb38:=NB304_302.out;have hnc38:=NB302_304.out;have hnb39:=NB304_303.out;have hnc39:=NB303_304.out;obtain ⟨hcz40_0,hcz40_1,hfz40_0,hfz40_1⟩:=cf2_ BK304.out;have hnb41:=NB302_303.out;have hnc41:=NB303_302.out;obtain ⟨hcz42_0,hcz42_1,hcz42_2,hcz42_3,hfz42_0,hfz42_1,hfz42_2,hfz42_3⟩:=cf4_ BK302.out;have p30 : 0 ≤ ((ji27) : Int):=of_decide_eq_true (by first|(with_reducible assumption)|assumption);have q30 : ((ji27) : Int) < ((x305001_2.length : Int) : Int):=of_decide_eq_true (by first|(with_reducible assumption)|assumption);obtain ⟨go30,co30,eo30,gb30,gl30,cl30,HG30⟩:=Kd.R_form HO_305001.out (by omega);(first|cases eo30|(injection eo30 with ea_ en_ ec_;(first|subst ea_|(injection ea_ with ea_;subst ea_));subst ec_;clear en_));have GB30:=Aside0.mk gb30;have GG30:=Aside0.mk HG30;clear gb30 gl30 HG30;obtain ⟨hx30_0,hf30_0⟩:=Kd.R_celln 0 HO_305001.out ((ji27) : Int) p30 q30;replace p30:=eq_true p30;replace q30:=eq_true q30;obtain ⟨hy43_,hz43_⟩:=Kd.R_celln 0 HO_305001.out ((ji27) : Int) (of_decide_eq_true (by first|(with_reducible assumption)|assumption)) (of_decide_eq_true (by first|(with_reducible assumption)|assumption));have HP43:=Kd.R_putg HO_305001.out ((ji27) : Int) ((rd_T92 l0_3 x27_2).f3))|((with_reducible refine gate_store (t:=3) (p:=47) rfl ?_);refine store_event (t:=3) (p:=47) (v:=?vo_w44) (w1:=(w36.setCell ⟨go30,((ji27) : Int).toNat,none⟩ (.int .i64 ((rd_T92 l0_3 x27_2).f3)))) ?hg ?ho ?hn ?hr ?_;(case ho => rfl);(case hg => rfl);(case hn => rfl);(case hr => first|(go_simp;done)|(go_simp;rfl));intro w44 hw;have hg : w36.grownBy w44 (some go30):=(by rw [hw];exact HP43.2);have hp_ : Kd.R (Kd.int .i64) 3 w44 w.heap.size (fun _ => True) (.slice (some ⟨go30,0,none⟩) x305001_2.length co30) y310:=(by rw [hw,Ny310.out];exact HP43.1);clear HP43;replace BK302:=Aside0.mk (blk_grown (g:=gb302) (o:=.cells #[.int .i64 a0_0,.slice A0_1 l0_1.length c0_1,.slice A0_2 l0_2.length c0_2,.slice (some ad308) l0_3.length c0_3] 33 (0,0)) (pe_ BK302.out) hg (Kd.R_ne HO_305001.out BK302.out (by decide)));replace BK303:=Aside0.mk (blk_grown (g:=gb303) (o:=.cells #[.int .i64 0,.slice none 0 0] 35 (0,0)) (pe_ BK303.out) hg (Kd.R_ne HO_305001.out BK303.out (by decide)));replace BK304:=Aside0.mk (blk_grown (g:=gb304) (o:=.cells #[.int .i64 a0_0,.slice (some ⟨go30,0,none⟩) x305001_2.length co30] 35 (0,0)) (pe_ BK304.out) hg (Kd.R_ne HO_305001.out BK304.out (by decide)));replace BK309:=Aside0.mk (blk_grown (g:=gb309) (o:=.cells #[.int .i64 ((rd_T92 l0_3 x27_2).f0),.string ((rd_T92 l0_3 x27_2).f1),.int .i64 ((rd_T92 l0_3 x27_2).f2),.int .i64 ((rd_T92 l0_3 x27_2).f3)] 92 (0,0)) (pe_ BK309.out) hg (Kd.R_ne HO_305001.out BK309.out (by decide)));replace HO_305001:=Aside0.mk (hp_);replace HB:=Aside0.mk ((by rw [hw];exact below_set (HB.out) GB30.out : Below w.heap.size w w44));clear hg hw hp_))
            go_roundg k2
            case measure => have:=HK1.out;have:=HK2.out;omega
            case rel => exact ⟨(wrap64 (x27_2 + 1)),(y310),(.slice (some ⟨go30,0,none⟩) x305001_2.length co30),rs_,H',⟨by have:=HK1.out;have:=HK2.out;omega⟩,⟨pr_ HO_305001.out⟩,⟨pe_ BK302.out⟩,⟨pe_ BK303.out⟩,⟨pe_ BK304.out⟩,⟨be4_ HB.out GE302.out GE303.out GE304.out GE309.out⟩⟩
           ·rw [if_neg c29] at H
            exact absurd H (by simp)
          ·rw [if_neg c28] at H
           exact absurd H (by simp)
         ·rw [if_neg c26] at H
          have c26b0 : (((rd_T92 l0_3 x27_2).f1).toList == a1.toList) = false:=beq_eq_false_iff_ne.mpr c26
          have c26b1 : (((rd_T92 l0_3 x27_2).f1).toList != a1.toList) = true:=bne_iff_ne.mpr c26
          have H':=Aside0.mk H
          clear H
          have p308 : 0 ≤ (x27_2 : Int):=of_decide_eq_true (by first|(with_reducible assumption)|assumption)
          have q308 : x27_2 < (l0_3.length : Int):=of_decide_eq_true (by first|(with_reducible assumption)|assumption)
          obtain ⟨ad308,e308,hx308_0,hx308_1,hx308_2,hx308_3⟩:=at_T92 HR0_3.out x27_2 p308 q308
          cases e308
          replace hx308_0:=hbc_ HB.out hx308_0
          replace hx308_1:=hbc_ HB.out hx308_1
          replace hx308_2:=hbc_ HB.out hx308_2
          replace hx308_3:=hbc_ HB.out hx308_3
          replace p308:=eq_true p308
          replace q308:=eq_true q308
          go_wp2_with (first|((with_reducible refine bev_ (N:=7) rfl rfl (cs:=#[.int .i64 0,.string (⟨#[]⟩ : ByteArray),.int .i64 0,.int .i64 0]) (t:=92) ?hr ?_);(case hr => first|(go_simp;done)|(go_simp;rfl));intro gb309 hg w45 hbox hb;replace HO_305001:=Aside0.mk (Kd.R_below (pr_ HO_305001.out) hb);have BK309:=Aside0.mk (hbox);have GW309:=Aside0.mk (szg_ hg (below_size (be3_ HB.out GE302.out GE303.out GE304.out)));have GE309:=Aside0.mk (szg_ hg (below_size (be3_ HB.out GE302.out GE303.out GE304.out)));replace HB:=Aside0.mk (below_step (be3_ HB.out GE302.out GE303.out GE304.out) hb);have NB302_309:=Aside0.mk (nl_ hg BK302.out);have NB309_302:=Aside0.mk (ng_ hg BK302.out);replace BK302:=Aside0.mk (kb_ BK302.out hb);have NB303_309:=Aside0.mk (nl_ hg BK303.out);have NB309_303:=Aside0.mk (ng_ hg BK303.out);replace BK303:=Aside0.mk (kb_ BK303.out hb);have NB304_309:=Aside0.mk (nl_ hg BK304.out);have NB309_304:=Aside0.mk (ng_ hg BK304.out);replace BK304:=Aside0.mk (kb_ BK304.out hb);clear hb hbox hg;have hnb46:=NB309_302.out;have hnc46:=NB302_309.out;have hnb47:=NB309_303.out;have hnc47:=NB303_309.out;have hnb48:=NB309_304.out;have hnc48:=NB304_309.out;obtain ⟨hcz49_0,hcz49_1,hcz49_2,hcz49_3,hfz49_0,hfz49_1,hfz49_2,hfz49_3⟩:=cf4_ BK309.out))
          go_roundg k2
          case measure => have:=HK1.out;have:=HK2.out;omega
          case rel => exact ⟨(wrap64 (x27_2 + 1)),(x305001_2),(u305001),rs_,H',⟨by have:=HK1.out;have:=HK2.out;omega⟩,⟨by refine pr_ ?_;exact Kd.R_mono (Kd.R_far (p:=⟨gb309,3,none⟩) (Kd.R_far (p:=⟨gb309,2,none⟩) (Kd.R_far (p:=⟨gb309,1,none⟩) (Kd.R_far (p:=⟨gb309,0,none⟩) (Kd.R_types HO_305001.out BK309.out (by decide)) (fun _ hk => hk.2) (.int .i64 ((rd_T92 l0_3 x27_2).f0))) (fun _ hk => hk.2) (.string ((rd_T92 l0_3 x27_2).f1))) (fun _ hk => hk.2) (.int .i64 ((rd_T92 l0_3 x27_2).f2))) (fun _ hk => hk.2) (.int .i64 ((rd_T92 l0_3 x27_2).f3))) (fun _ hk => trivial)⟩,⟨by refine pe_ ?_;refine blk_far ?_ NB302_309.out _;refine pe_ ?_;refine blk_far ?_ NB302_309.out _;refine pe_ ?_;refine blk_far ?_ NB302_309.out _;refine pe_ ?_;refine blk_far ?_ NB302_309.out _;refine pe_ ?_;exact BK302.out⟩,⟨by refine pe_ ?_;refine blk_far ?_ NB303_309.out _;refine pe_ ?_;refine blk_far ?_ NB303_309.out _;refine pe_ ?_;refine blk_far ?_ NB303_309.out _;refine pe_ ?_;refine blk_far ?_ NB303_309.out _;refine pe_ ?_;exact BK303.out⟩,⟨by refine pe_ ?_;refine blk_far ?_ NB304_309.out _;refine pe_ ?_;refine blk_far ?_ NB304_309.out _;refine pe_ ?_;refine blk_far ?_ NB304_309.out _;refine pe_ ?_;refine blk_far ?_ NB304_309.out _;refine pe_ ?_;exact BK304.out⟩,⟨be4_ HB.out GE302.out GE303.out GE304.out GE309.out⟩⟩
        ·rw [if_neg c25] at H
         exact absurd H (by simp)
       ·rw [if_neg c24] at H
        exact absurd H (by simp)
      ·rw [if_neg c23] at H
       have c23b0 : decide (x27_2 < (l0_3.length : Int)) = false:=decide_eq_false c23
       clear c23
       simp only [Option.some.injEq,Prod.mk.injEq] at H
       obtain ⟨rfl,rfl⟩:=H
       have hnb50:=NB304_302.out
       have hnc50:=NB302_304.out
       have hnb51:=NB304_303.out
       have hnc51:=NB303_304.out
       obtain ⟨hcz52_0,hcz52_1,hfz52_0,hfz52_1⟩:=cf2_ BK304.out
       have hnb53:=NB303_302.out
       have hnc53:=NB302_303.out
       obtain ⟨hcz54_0,hcz54_1,hfz54_0,hfz54_1⟩:=cf2_ BK303.out
       obtain ⟨Ao55,co55,eo55⟩:=Kd.R_slice HO_305001.out
       subst eo55
       go_wp2
       refine bodyPost_ret (results_cell_row rfl _ _ gb303 35 #[.int .i64 a0_0,.slice Ao55 x305001_2.length co55] (0,0) _ rfl (by refine pe_ ?_;refine blk_put (cs:=#[.int .i64 a0_0,.slice none 0 0]) ?_ 1 _ rfl;refine pe_ ?_;refine blk_put (cs:=#[.int .i64 0,.slice none 0 0]) ?_ 0 _ rfl;refine pe_ ?_;exact BK303.out) Try.underlying35 rfl (by kernel_rfl)) rfl ?_
       exact ⟨_,er_,by refine pr_ ?_;exact Kd.R_mono (Kd.R_far (p:=⟨gb303,1,none⟩) (Kd.R_far (p:=⟨gb303,0,none⟩) (Kd.R_types HO_305001.out BK303.out (by decide)) (fun _ hk => hk.2) (.int .i64 a0_0)) (fun _ hk => hk.2) (.slice Ao55 x305001_2.length co55)) (fun _ hk => trivial),be3_ HB.out GE302.out GE303.out GE304.out⟩
end Go.Proofs.Ytfmbpoojpnoafaa.X
end
